/- Functions by content: the program writes records into logs. -/
import Derived.Test.YthbdlnogojcnmaaGreatDoorSls
import Derived.Test.YthbdlnogojcnmaaGreatDoorDk
namespace Go.Proofs.YthbdlnogojcnmaaGreatDoor
set_option maxRecDepth 100000
set_option maxHeartbeats 8000000
set_option linter.unusedVariables false
set_option linter.unusedSimpArgs false
set_option linter.unusedSectionVars false
open Go.RowKit Pl
theorem zeK {k : Nat} (l : List Fl) : ownE (.row k (flE l)) := fun e he c hc => by
 simp only [flE, List.mem_map] at he
 obtain ⟨x, _, rfl⟩ := he
 simp only [List.mem_cons, List.not_mem_nil, or_false] at hc
 rcases hc with rfl | rfl | rfl <;> trivial
theorem zhr {e : Ent} (h : ownE e) : ∀ x ∈ [e], ownE x := fun x hx => by rw [List.mem_singleton.1 hx]; exact h
section
attribute [local irreducible] z0p z0r z0y AnsP LeP W CvE
theorem z2T (l : List Fl) (h : (l.length : Int) ≤ 100000000) : CT Tryz.prog 98 [] [.agg [.sl 3 (flE l)]] (.agg [.ref 1]) [.row 3 (flE l)] := by
 have hl := z1W l
 refine z01 z0l 1 rfl Tryz.func98 rfl rfl rfl ?_
 conv => arg 6; whnf
 repeat ((try conv => whnf); first | (with_reducible first | refine z0e (fun Qs hN hE hR => ?_) | refine z0c ?_ | refine z05 (fun Qb kN kE kX kR => ?_) | refine z07 ?_ | refine z08 ?_ | refine z0d ?_ | refine z09 ?_ | refine z0a ?_ | (show W _ _ _ (.cond _ _ _) _ _; refine z06 rfl ?_) | (refine hN _ ?_; try clear hN hE hR Qs; (try (conv => arg 6; dsimp only [ovl, List.set, List.map, ren0]))) | ((first | refine hE _ _ ?_ | refine hR _ ?_); try clear hN hE hR Qs) | ((first | refine kN _ ?_ | refine kE _ ?_ | refine kX _ _ rfl ?_ | refine kR _ ?_); try clear kN kE kX kR Qb)) | (refine And.intro (by simp only [List.length_append, List.length_cons, List.length_nil, List.nil_append, List.length_replicate]; omega) ?_) | (refine And.intro (by kernel_rfl) ?_) | (refine stpQ ?_))
 (refine z00 (by rfl) ?_ ?_ (by rfl)) <;> (repeat' (first | (exact eqA) | (refine And.intro ?_ ?_) | ((fail_if_success (with_reducible (show _ = _))); (show _ = _))))
theorem zfQ (t : Bs) (h : 1 ≤ t.length ∧ t.length ≤ 9000) : CT Tryz.prog 143 [] [.str t] (.tup [.str (z0N t), .bool true]) [] := by
 have c1 := c_in (t.length : Int) 1 9000
 rw [show inB (t.length : Int) 1 9000 = true by simp only [inB, Bool.and_eq_true, decide_eq_true_eq]; omega] at c1
 have c2 := z5S t.length (by omega)
 have c3 := zgf t (by omega)
 have hs := z7z t
 have c4 := zef (z1U t) (by omega)
 have hv := z0z (n := t.length) (by omega)
 have h4 := z2A (z1U t)
 unfold z0N
 generalize z1U t = s at *
 generalize z1Z s = f at *
 generalize z03 t.length = v at *
 refine z01 z0j 1 rfl Tryz.func143 rfl rfl rfl ?_
 conv => arg 6; whnf
 repeat ((try conv => whnf); first | (with_reducible first | refine z0e (fun Qs hN hE hR => ?_) | refine z0c ?_ | refine z05 (fun Qb kN kE kX kR => ?_) | refine z07 ?_ | refine z08 ?_ | refine z0d ?_ | refine z09 ?_ | refine z0a ?_ | (show W _ _ _ (.cond _ _ _) _ _; refine z06 rfl ?_) | (refine hN _ ?_; try clear hN hE hR Qs; (try (conv => arg 6; dsimp only [ovl, List.set, List.map, ren0]))) | ((first | refine hE _ _ ?_ | refine hR _ ?_); try clear hN hE hR Qs) | ((first | refine kN _ ?_ | refine kE _ ?_ | refine kX _ _ rfl ?_ | refine kR _ ?_); try clear kN kE kX kR Qb)) | (refine ccA ([]) (c1) ?_) | (refine ccA ([]) (c2) ?_) | (refine ccA ([]) (c3) ?_) | (refine ccA ([]) (c4) ?_) | (refine And.intro (by simp only [List.length_append]; omega) ?_) | (refine And.intro (by kernel_rfl) ?_) | (refine stpQ ?_))
 (refine z00 (by rfl) ?_ ?_ (by rfl)) <;> (repeat' (first | (exact eqA) | (refine And.intro ?_ ?_) | ((fail_if_success (with_reducible (show _ = _))); (show _ = _))))
theorem zau (n : Bs) (hn : 1 ≤ n.length ∧ n.length ≤ 8) (hx : n ≠ [110, 101, 119]) : CT Tryz.prog 144 [] [.str n] (.bool true) [] := by
 have c1 := z2q n (by omega)
 rw [z74 hn] at c1
 have e : (!decide (n = [110, 101, 119])) = true := by simp [hx]
 refine z01 z0j 1 rfl Tryz.func144 rfl rfl rfl ?_
 conv => arg 6; whnf
 repeat ((try conv => whnf); first | (with_reducible first | refine z0e (fun Qs hN hE hR => ?_) | refine z0c ?_ | refine z05 (fun Qb kN kE kX kR => ?_) | refine z07 ?_ | refine z08 ?_ | refine z0d ?_ | refine z09 ?_ | refine z0a ?_ | (show W _ _ _ (.cond _ _ _) _ _; refine z06 rfl ?_) | (refine hN _ ?_; try clear hN hE hR Qs; (try (conv => arg 6; dsimp only [ovl, List.set, List.map, ren0]))) | ((first | refine hE _ _ ?_ | refine hR _ ?_); try clear hN hE hR Qs) | ((first | refine kN _ ?_ | refine kE _ ?_ | refine kX _ _ rfl ?_ | refine kR _ ?_); try clear kN kE kX kR Qb)) | (refine ccA ([]) (c1) ?_) | (refine z2K hx ?_) | (refine And.intro (by kernel_rfl) ?_) | (refine stpQ ?_))
 (refine z00 (by rfl) ?_ ?_ (by rfl)) <;> (repeat' (first | (exact eqA) | (refine And.intro ?_ ?_) | ((fail_if_success (with_reducible (show _ = _))); (show _ = _)))) <;> first | rfl | exact e
theorem zcG (n t : Bs) (hn : 1 ≤ n.length ∧ n.length ≤ 8) (hx : n ≠ [110, 101, 119]) (ht : 1 ≤ t.length ∧ t.length ≤ 9000) : CT Tryz.prog 107 [] [.str n, .str t] (.tup [.sl 4 (acE n (z0N t)), .bool true]) [] := by
 have c1 := zfQ t ht
 have c2 := zau n hn hx
 unfold acE
 generalize z0N t = f at *
 refine z01 z0j 1 rfl Tryz.func107 rfl rfl rfl ?_
 conv => arg 6; whnf
 repeat ((try conv => whnf); first | (with_reducible first | refine z0e (fun Qs hN hE hR => ?_) | refine z0c ?_ | refine z05 (fun Qb kN kE kX kR => ?_) | refine z07 ?_ | refine z08 ?_ | refine z0d ?_ | refine z09 ?_ | refine z0a ?_ | (show W _ _ _ (.cond _ _ _) _ _; refine z06 rfl ?_) | (refine hN _ ?_; try clear hN hE hR Qs; (try (conv => arg 6; dsimp only [ovl, List.set, List.map, ren0]))) | ((first | refine hE _ _ ?_ | refine hR _ ?_); try clear hN hE hR Qs) | ((first | refine kN _ ?_ | refine kE _ ?_ | refine kX _ _ rfl ?_ | refine kR _ ?_); try clear kN kE kX kR Qb)) | (refine ccA ([]) (c1) ?_) | (refine ccA ([]) (c2) ?_) | (refine And.intro (by kernel_rfl) ?_) | (refine stpQ ?_))
 (refine z00 (by rfl) ?_ ?_ (by rfl)) <;> (repeat' (first | (exact eqA) | (refine And.intro ?_ ?_) | ((fail_if_success (with_reducible (show _ = _))); (show _ = _)))) <;> rfl
theorem zbI (n t : Bs) (hn : 1 ≤ n.length ∧ n.length ≤ 8) : CT Tryz.prog 178 [] [.agg [.int .i64 1, .str n, .str t, .str []]] (.bool true) [] := by
 have c1 := c_in 1 1 4
 rw [show inB 1 1 4 = true from rfl] at c1
 have c2 := z2q n (by omega)
 rw [z74 hn] at c2
 have f0 : ([] : Bs) = [] := rfl
 refine z01 z0j 1 rfl Tryz.func178 rfl rfl rfl ?_
 conv => arg 6; whnf
 repeat ((try conv => whnf); first | (with_reducible first | refine z0e (fun Qs hN hE hR => ?_) | refine z0c ?_ | refine z05 (fun Qb kN kE kX kR => ?_) | refine z07 ?_ | refine z08 ?_ | refine z0d ?_ | refine z09 ?_ | refine z0a ?_ | (show W _ _ _ (.cond _ _ _) _ _; refine z06 rfl ?_) | (refine hN _ ?_; try clear hN hE hR Qs; (try (conv => arg 6; dsimp only [ovl, List.set, List.map, ren0]))) | ((first | refine hE _ _ ?_ | refine hR _ ?_); try clear hN hE hR Qs) | ((first | refine kN _ ?_ | refine kE _ ?_ | refine kX _ _ rfl ?_ | refine kR _ ?_); try clear kN kE kX kR Qb)) | (refine ccA ([]) (c1) ?_) | (refine ccA ([]) (c2) ?_) | (refine z0g f0 ?_) | (refine And.intro (by kernel_rfl) ?_) | (refine stpQ ?_))
 (refine z00 (by rfl) ?_ ?_ (by rfl)) <;> (repeat' (first | (exact eqA) | (refine And.intro ?_ ?_) | ((fail_if_success (with_reducible (show _ = _))); (show _ = _)))) <;> rfl
theorem zfR (n t : Bs) (hn : 1 ≤ n.length ∧ n.length ≤ 8) : CT Tryz.prog 178 [] [.agg [.int .i64 2, .str n, .str [], .str []]] (.bool true) [] := by
 have c1 := c_in 2 1 4
 rw [show inB 2 1 4 = true from rfl] at c1
 have c2 := z2q n (by omega)
 rw [z74 hn] at c2
 have f0 : ([] : Bs) = [] := rfl
 refine z01 z0j 1 rfl Tryz.func178 rfl rfl rfl ?_
 conv => arg 6; whnf
 repeat ((try conv => whnf); first | (with_reducible first | refine z0e (fun Qs hN hE hR => ?_) | refine z0c ?_ | refine z05 (fun Qb kN kE kX kR => ?_) | refine z07 ?_ | refine z08 ?_ | refine z0d ?_ | refine z09 ?_ | refine z0a ?_ | (show W _ _ _ (.cond _ _ _) _ _; refine z06 rfl ?_) | (refine hN _ ?_; try clear hN hE hR Qs; (try (conv => arg 6; dsimp only [ovl, List.set, List.map, ren0]))) | ((first | refine hE _ _ ?_ | refine hR _ ?_); try clear hN hE hR Qs) | ((first | refine kN _ ?_ | refine kE _ ?_ | refine kX _ _ rfl ?_ | refine kR _ ?_); try clear kN kE kX kR Qb)) | (refine ccA ([]) (c1) ?_) | (refine ccA ([]) (c2) ?_) | (refine z0g f0 ?_) | (refine And.intro (by kernel_rfl) ?_) | (refine stpQ ?_))
 (refine z00 (by rfl) ?_ ?_ (by rfl)) <;> (repeat' (first | (exact eqA) | (refine And.intro ?_ ?_) | ((fail_if_success (with_reducible (show _ = _))); (show _ = _)))) <;> rfl
theorem zeL (n : Bs) (t : Bs) (ht : t.length ≤ 30000) (hn : 1 ≤ n.length ∧ n.length ≤ 8) (hd : z1b [] = true) (hB : FlB []) (hr : z1b [(n, t, 0)] = true) (hrB : FlB [(n, t, 0)]) : CT Tryz.prog 145 [] [.agg [.sl 3 (flE [])], .agg [.int .i64 1, .str n, .str t, .str []]] (.tup [.agg [.ref 1], .bool true]) [.row 3 (flE [(n, t, 0)])] := by
 have c1 := z5h [] n (by simp)
 rw [show z1F [] n = none from rfl, show ixI none = -1 from rfl] at c1
 have c2 := z2Q _ (z2l hB)
 rw [hd] at c2
 have c3 := zbI n t hn
 have c4 := z2T [] (by simp)
 have c5 := z3V 1 (by decide)
 have c6 := z2Q _ (z2l hrB)
 rw [hr] at c6
 have q1 : (1 : Int) = 1 := rfl
 have q2 : (2 : Int) = 2 := rfl
 have q12 : ¬ (2 : Int) = 1 := by decide
 have m1 : (-1 : Int) < 0 := by decide
 have m0 : ¬ (0 : Int) < 0 := by decide
 have nact : ¬ (1 : Int) = 1 → False := fun h => h rfl
 clear hd hr hB hrB
 unfold flE at *
 simp only [List.map_cons, List.map_nil] at *
 refine z01 z0j 1 rfl Tryz.func145 rfl rfl rfl ?_
 conv => arg 6; whnf
 repeat ((try conv => whnf); first | (with_reducible first | refine z0e (fun Qs hN hE hR => ?_) | refine z0c ?_ | refine z05 (fun Qb kN kE kX kR => ?_) | refine z07 ?_ | refine z08 ?_ | refine z0d ?_ | refine z09 ?_ | refine z0a ?_ | (show W _ _ _ (.cond _ _ _) _ _; refine z06 rfl ?_) | (refine hN _ ?_; try clear hN hE hR Qs; (try (conv => arg 6; dsimp only [ovl, List.set, List.map, ren0]))) | ((first | refine hE _ _ ?_ | refine hR _ ?_); try clear hN hE hR Qs) | ((first | refine kN _ ?_ | refine kE _ ?_ | refine kX _ _ rfl ?_ | refine kR _ ?_); try clear kN kE kX kR Qb)) | (refine ccA ([]) (c1) ?_) | (refine ccA ([]) (c2) ?_) | (refine ccA ([]) (c3) ?_) | (refine ccA ([]) (c4) ?_) | (refine z0g m1 ?_) | (refine z0g q1 ?_) | (refine z0G q1 ?_) | (refine And.intro (by simp only [List.nil_append, List.length_append, List.length_nil]; omega) ?_) | (refine Exists.intro 0 (And.intro rfl ?_)) | (refine Exists.intro 1 (And.intro rfl ?_)) | (refine ccA ([]) (c6) ?_) | (refine ccA [] (c5) ?_) | (refine And.intro (by simp only [List.length_append, List.length_set, List.length_replicate, List.length_cons, List.length_nil]; omega) ?_) | (refine And.intro (by kernel_rfl) ?_) | (refine stpQ ?_))
 (refine z00 (by rfl) ?_ ?_ (by rfl)) <;> (repeat' (first | (exact eqA) | (refine And.intro ?_ ?_) | ((fail_if_success (with_reducible (show _ = _))); (show _ = _)))) <;> rfl
theorem zeM (n : Bs) (a t : Bs) (x : Int) (ht : a.length + t.length ≤ 60000) (hn : 1 ≤ n.length ∧ n.length ≤ 8) (hd : z1b [(n, a, x)] = true) (hB : FlB [(n, a, x)]) (hr : z1b [(n, a ++ t, x)] = true) (hrB : FlB [(n, a ++ t, x)]) : CT Tryz.prog 145 [] [.agg [.sl 3 (flE [(n, a, x)])], .agg [.int .i64 1, .str n, .str t, .str []]] (.tup [.agg [.ref 1], .bool true]) [.row 3 (flE [(n, a ++ t, x)])] := by
 have c1 := z5h [(n, a, x)] n (by simp)
 rw [zbt n a x, show ixI (some 0) = 0 from rfl] at c1
 have c2 := z2Q _ (z2l hB)
 rw [hd] at c2
 have c3 := zbI n t hn
 have c4 := z2T [(n, a, x)] (by simp)
 have c5 := z3V 1 (by decide)
 have c6 := z2Q _ (z2l hrB)
 rw [hr] at c6
 have q1 : (1 : Int) = 1 := rfl
 have q2 : (2 : Int) = 2 := rfl
 have q12 : ¬ (2 : Int) = 1 := by decide
 have m1 : (-1 : Int) < 0 := by decide
 have m0 : ¬ (0 : Int) < 0 := by decide
 have nact : ¬ (1 : Int) = 1 → False := fun h => h rfl
 clear hd hr hB hrB
 unfold flE at *
 simp only [List.map_cons, List.map_nil] at *
 refine z01 z0j 1 rfl Tryz.func145 rfl rfl rfl ?_
 conv => arg 6; whnf
 repeat ((try conv => whnf); first | (with_reducible first | refine z0e (fun Qs hN hE hR => ?_) | refine z0c ?_ | refine z05 (fun Qb kN kE kX kR => ?_) | refine z07 ?_ | refine z08 ?_ | refine z0d ?_ | refine z09 ?_ | refine z0a ?_ | (show W _ _ _ (.cond _ _ _) _ _; refine z06 rfl ?_) | (refine hN _ ?_; try clear hN hE hR Qs; (try (conv => arg 6; dsimp only [ovl, List.set, List.map, ren0]))) | ((first | refine hE _ _ ?_ | refine hR _ ?_); try clear hN hE hR Qs) | ((first | refine kN _ ?_ | refine kE _ ?_ | refine kX _ _ rfl ?_ | refine kR _ ?_); try clear kN kE kX kR Qb)) | (refine ccA ([]) (c1) ?_) | (refine ccA ([]) (c2) ?_) | (refine ccA ([]) (c3) ?_) | (refine ccA ([]) (c4) ?_) | (refine z0b m0 ?_) | (refine z0g q1 ?_) | (refine And.intro (by simp only [List.length_append]; omega) ?_) | (refine Exists.intro 0 (And.intro rfl ?_)) | (refine Exists.intro 1 (And.intro rfl ?_)) | (refine ccA ([]) (c6) ?_) | (refine ccA [] (c5) ?_) | (refine And.intro (by simp only [List.length_append, List.length_set, List.length_replicate, List.length_cons, List.length_nil]; omega) ?_) | (refine And.intro (by kernel_rfl) ?_) | (refine stpQ ?_))
 (refine z00 (by rfl) ?_ ?_ (by rfl)) <;> (repeat' (first | (exact eqA) | (refine And.intro ?_ ?_) | ((fail_if_success (with_reducible (show _ = _))); (show _ = _)))) <;> rfl
theorem zeN (n : Bs) (a : Bs) (x : Int) (ha : a.length ≤ 30000) (hn : 1 ≤ n.length ∧ n.length ≤ 8) (hd : z1b [(n, a, x)] = true) (hB : FlB [(n, a, x)]) (hr : z1b [(n, a, (a.length : Int))] = true) (hrB : FlB [(n, a, (a.length : Int))]) : CT Tryz.prog 145 [] [.agg [.sl 3 (flE [(n, a, x)])], .agg [.int .i64 2, .str n, .str [], .str []]] (.tup [.agg [.ref 1], .bool true]) [.row 3 (flE [(n, a, (a.length : Int))])] := by
 have c1 := z5h [(n, a, x)] n (by simp)
 rw [zbt n a x, show ixI (some 0) = 0 from rfl] at c1
 have c2 := z2Q _ (z2l hB)
 rw [hd] at c2
 have c3 := zfR n [] hn
 have c4 := z2T [(n, a, x)] (by simp)
 have c5 := z3V 1 (by decide)
 have c6 := z2Q _ (z2l hrB)
 rw [hr] at c6
 have q1 : (1 : Int) = 1 := rfl
 have q2 : (2 : Int) = 2 := rfl
 have q12 : ¬ (2 : Int) = 1 := by decide
 have m1 : (-1 : Int) < 0 := by decide
 have m0 : ¬ (0 : Int) < 0 := by decide
 have nact : ¬ (1 : Int) = 1 → False := fun h => h rfl
 clear hd hr hB hrB
 unfold flE at *
 simp only [List.map_cons, List.map_nil] at *
 refine z01 z0j 1 rfl Tryz.func145 rfl rfl rfl ?_
 conv => arg 6; whnf
 repeat ((try conv => whnf); first | (with_reducible first | refine z0e (fun Qs hN hE hR => ?_) | refine z0c ?_ | refine z05 (fun Qb kN kE kX kR => ?_) | refine z07 ?_ | refine z08 ?_ | refine z0d ?_ | refine z09 ?_ | refine z0a ?_ | (show W _ _ _ (.cond _ _ _) _ _; refine z06 rfl ?_) | (refine hN _ ?_; try clear hN hE hR Qs; (try (conv => arg 6; dsimp only [ovl, List.set, List.map, ren0]))) | ((first | refine hE _ _ ?_ | refine hR _ ?_); try clear hN hE hR Qs) | ((first | refine kN _ ?_ | refine kE _ ?_ | refine kX _ _ rfl ?_ | refine kR _ ?_); try clear kN kE kX kR Qb)) | (refine ccA ([]) (c1) ?_) | (refine ccA ([]) (c2) ?_) | (refine ccA ([]) (c3) ?_) | (refine ccA ([]) (c4) ?_) | (refine z0b m0 ?_) | (refine z0b q12 ?_) | (refine z0g q2 ?_) | (refine Exists.intro 0 (And.intro rfl ?_)) | (refine Exists.intro 1 (And.intro rfl ?_)) | (refine ccA ([]) (c6) ?_) | (refine ccA [] (c5) ?_) | (refine And.intro (by simp only [List.length_append, List.length_set, List.length_replicate, List.length_cons, List.length_nil]; omega) ?_) | (refine And.intro (by kernel_rfl) ?_) | (refine stpQ ?_))
 (refine z00 (by rfl) ?_ ?_ (by rfl)) <;> (repeat' (first | (exact eqA) | (refine And.intro ?_ ?_) | ((fail_if_success (with_reducible (show _ = _))); (show _ = _)))) <;> rfl
theorem zeO (n t : Bs) (ts : List Bs) (hn : 1 ≤ n.length ∧ n.length ≤ 8) (ht : 1 ≤ t.length ∧ t.length ≤ 200) (h : Rec 89 ts) : CT Tryz.prog 145 [] [.agg [.sl 3 (flE (dkOf n ts))], .agg [.int .i64 1, .str n, .str (z0N t), .str []]] (.tup [.agg [.ref 1], .bool true]) [.row 3 (flE (z2Y n ts t))] := by
 have h1 : Rec 90 ts := h.up (by decide)
 have h2 : Rec 90 (ts ++ [t]) := h.add ht
 have hfl := (z3r (t := t) (by omega)).2
 have hl := h1.len
 have r1 := z5g hn h2
 have r2 := z7P hn.2 h2
 have r3 := ze7 hn h1
 have r4 := z2p (n := n) hn.2 h1
 by_cases e : ts = []
 ·subst e
  have e1 : z2Y n [] t = [(n, z0N t, 0)] := by rw [z2Y, List.nil_append, z5f]; rfl
  rw [e1] at r1 r2 ⊢
  rw [ze6] at r3 r4 ⊢
  exact zeL n (z0N t) (by omega) hn r3 r4 r1 r2
 ·have e1 : z2Y n ts t = [(n, logB ts ++ z0N t, ((logB ts).length : Int))] := by rw [z2Y, z7M, z5f]
  rw [e1] at r1 r2 ⊢
  rw [z3T e] at r3 r4 ⊢
  exact zeM n (logB ts) (z0N t) _ (by omega) hn r3 r4 r1 r2
theorem zcH (n t : Bs) (ts : List Bs) (hn : 1 ≤ n.length ∧ n.length ≤ 8) (ht : 1 ≤ t.length ∧ t.length ≤ 200) (h : Rec 89 ts) : CT Tryz.prog 145 [] [.agg [.sl 3 (flE (z2Y n ts t))], .agg [.int .i64 2, .str n, .str [], .str []]] (.tup [.agg [.ref 1], .bool true]) [.row 3 (flE (dkOf n (ts ++ [t])))] := by
 have h2 : Rec 90 (ts ++ [t]) := h.add ht
 have hl := h2.len
 have r1 := z5g hn h2
 have r2 := z7P hn.2 h2
 have r3 := ze7 hn h2
 have r4 := z2p (n := n) hn.2 h2
 rw [zgb] at r3 r4 ⊢
 exact zeN n _ _ (by omega) hn r1 r2 r3 r4
theorem zeP (n t : Bs) (ts : List Bs) (hn : 1 ≤ n.length ∧ n.length ≤ 8) (ht : 1 ≤ t.length ∧ t.length ≤ 200) (h : Rec 89 ts) : CT Tryz.prog 108 [] [.agg [.sl 3 (flE (dkOf n ts))], .sl 4 (acE n (z0N t))] (.tup [.agg [.ref 1], .int .i64 2]) [.row 3 (flE (dkOf n (ts ++ [t])))] := by
 have h1 : Rec 90 ts := h.up (by decide)
 have a1 := zeO n t ts hn ht h
 have a2 := zcH n t ts hn ht h
 have o1 := zhr (zeK (k := 3) (z2Y n ts t))
 have o2 := zhr (zeK (k := 3) (dkOf n (ts ++ [t])))
 have a0 := z2T (dkOf n ts) (by have := (z2p (n := n) hn.2 h1).1; omega)
 generalize flE (dkOf n (ts ++ [t])) = d2 at *
 generalize flE (z2Y n ts t) = d1 at *
 generalize flE (dkOf n ts) = d0 at *
 generalize z0N t = f at *
 have hac : (acE n f).length = 2 := rfl
 have g0 : (acE n f)[0]? = some [.int .i64 1, .str n, .str f, .str []] := rfl
 have g1 : (acE n f)[1]? = some [.int .i64 2, .str n, .str [], .str []] := rfl
 generalize acE n f = A at *
 clear h h1 hn ht
 refine z01 z0j 1 rfl Tryz.func108 rfl rfl rfl ?_
 conv => arg 6; whnf
 repeat ((try conv => whnf); first | (with_reducible first | refine z0e (fun Qs hN hE hR => ?_) | refine z0c ?_ | refine z05 (fun Qb kN kE kX kR => ?_) | refine z07 ?_ | refine z08 ?_ | refine z0d ?_ | refine z09 ?_ | refine z0a ?_ | (show W _ _ _ (.cond _ _ _) _ _; refine z06 rfl ?_) | (refine hN _ ?_; try clear hN hE hR Qs; (try (conv => arg 6; dsimp only [ovl, List.set, List.map, ren0]))) | ((first | refine hE _ _ ?_ | refine hR _ ?_); try clear hN hE hR Qs) | ((first | refine kN _ ?_ | refine kE _ ?_ | refine kX _ _ rfl ?_ | refine kR _ ?_); try clear kN kE kX kR Qb)) | (refine ccA ([]) (a0) ?_) | (refine Exists.intro 2 (And.intro hac ?_)) | (refine And.intro (by kernel_rfl) ?_) | (refine stpQ ?_))
 refine z22 Nat (fun i => ⟨[(1, .sl 4 A), (4, .ptr 1 0 0), (6, .ptr 2 0 0), (13, .sl 4 A), (14, .int .i64 ((2 : Nat) : Int)), (15, .int .i64 (i : Int))], [(1, some (.box [.val nilV])), (2, some (.box [.ref 3])), (3, some (.row 3 (if i = 0 then d0 else if i = 1 then d1 else d2)))], 4⟩) (fun i => i ≤ 2) (fun i => 2 - i) 0 (by decide) ?_ ?_
 ·(refine z04 (by rfl) ?_ ?_) <;> (repeat' (first | (exact eqA) | (refine And.intro ?_ ?_) | ((fail_if_success (with_reducible (show _ = _))); (show _ = _)))) <;> first | rfl | (simp; done)
 ·intro Q1 hQ1 i hi
  have hc : i = 0 ∨ i = 1 ∨ i = 2 := by omega
  rcases hc with hc | hc | hc
  ·subst hc
   have f1 : ((0 : Nat) : Int) < ((2 : Nat) : Int) := by decide
   rw [if_pos rfl]
   repeat ((try conv => whnf); first | (with_reducible first | refine z0e (fun Qs hN hE hR => ?_) | refine z0c ?_ | refine z05 (fun Qb kN kE kX kR => ?_) | refine z07 ?_ | refine z08 ?_ | refine z0d ?_ | refine z09 ?_ | refine z0a ?_ | (show W _ _ _ (.cond _ _ _) _ _; refine z06 rfl ?_) | (refine hN _ ?_; try clear hN hE hR Qs; (try (conv => arg 6; dsimp only [ovl, List.set, List.map, ren0]))) | ((first | refine hE _ _ ?_ | refine hR _ ?_); try clear hN hE hR Qs) | ((first | refine kN _ ?_ | refine kE _ ?_ | refine kX _ _ rfl ?_ | refine kR _ ?_); try clear kN kE kX kR Qb)) | (refine z0g f1 ?_) | (refine i_at g0 ?_) | (refine ccA [] (a1) ?_ (h5 := .inr (And.intro (by simp [own2, own1, own0]) o1))) | (refine And.intro (by kernel_rfl) ?_) | (refine stpQ ?_))
   refine ⟨1, by decide, by decide, ?_⟩
   (refine z04 (by rfl) ?_ ?_) <;> (repeat' (first | (exact eqA) | (refine And.intro ?_ ?_) | ((fail_if_success (with_reducible (show _ = _))); (show _ = _)))) <;> rfl
  ·subst hc
   have f1 : ((1 : Nat) : Int) < ((2 : Nat) : Int) := by decide
   rw [if_neg (by decide), if_pos rfl]
   repeat ((try conv => whnf); first | (with_reducible first | refine z0e (fun Qs hN hE hR => ?_) | refine z0c ?_ | refine z05 (fun Qb kN kE kX kR => ?_) | refine z07 ?_ | refine z08 ?_ | refine z0d ?_ | refine z09 ?_ | refine z0a ?_ | (show W _ _ _ (.cond _ _ _) _ _; refine z06 rfl ?_) | (refine hN _ ?_; try clear hN hE hR Qs; (try (conv => arg 6; dsimp only [ovl, List.set, List.map, ren0]))) | ((first | refine hE _ _ ?_ | refine hR _ ?_); try clear hN hE hR Qs) | ((first | refine kN _ ?_ | refine kE _ ?_ | refine kX _ _ rfl ?_ | refine kR _ ?_); try clear kN kE kX kR Qb)) | (refine z0g f1 ?_) | (refine i_at g1 ?_) | (refine ccA [] (a2) ?_ (h5 := .inr (And.intro (by simp [own2, own1, own0]) o2))) | (refine And.intro (by kernel_rfl) ?_) | (refine stpQ ?_))
   refine ⟨2, by decide, by decide, ?_⟩
   (refine z04 (by rfl) ?_ ?_) <;> (repeat' (first | (exact eqA) | (refine And.intro ?_ ?_) | ((fail_if_success (with_reducible (show _ = _))); (show _ = _)))) <;> rfl
  ·subst hc
   have f1 : ¬ ((2 : Nat) : Int) < ((2 : Nat) : Int) := by decide
   rw [if_neg (by decide), if_neg (by decide)]
   repeat ((try conv => whnf); first | (with_reducible first | refine z0e (fun Qs hN hE hR => ?_) | refine z0c ?_ | refine z05 (fun Qb kN kE kX kR => ?_) | refine z07 ?_ | refine z08 ?_ | refine z0d ?_ | refine z09 ?_ | refine z0a ?_ | (show W _ _ _ (.cond _ _ _) _ _; refine z06 rfl ?_) | (refine hN _ ?_; try clear hN hE hR Qs; (try (conv => arg 6; dsimp only [ovl, List.set, List.map, ren0]))) | ((first | refine hE _ _ ?_ | refine hR _ ?_); try clear hN hE hR Qs) | ((first | refine kN _ ?_ | refine kE _ ?_ | refine kX _ _ rfl ?_ | refine kR _ ?_); try clear kN kE kX kR Qb)) | (refine z0b f1 ?_) | (refine And.intro (by kernel_rfl) ?_) | (refine stpQ ?_))
   refine hQ1 _ _ ?_
   clear hQ1 Q1
   repeat ((try conv => whnf); first | (with_reducible first | refine z0e (fun Qs hN hE hR => ?_) | refine z0c ?_ | refine z05 (fun Qb kN kE kX kR => ?_) | refine z07 ?_ | refine z08 ?_ | refine z0d ?_ | refine z09 ?_ | refine z0a ?_ | (show W _ _ _ (.cond _ _ _) _ _; refine z06 rfl ?_) | (refine hN _ ?_; try clear hN hE hR Qs; (try (conv => arg 6; dsimp only [ovl, List.set, List.map, ren0]))) | ((first | refine hE _ _ ?_ | refine hR _ ?_); try clear hN hE hR Qs) | ((first | refine kN _ ?_ | refine kE _ ?_ | refine kX _ _ rfl ?_ | refine kR _ ?_); try clear kN kE kX kR Qb)) | (refine Exists.intro 2 (And.intro hac ?_)) | (refine And.intro (by kernel_rfl) ?_) | (refine stpQ ?_))
   (refine z00 (by rfl) ?_ ?_ (by rfl)) <;> (repeat' (first | (exact eqA) | (refine And.intro ?_ ?_) | ((fail_if_success (with_reducible (show _ = _))); (show _ = _)))) <;> rfl
theorem zcI (n : Nat) (hn : (n : Int) ≤ 1000000000) : CT Tryz.prog 146 [] [.int .i64 (n : Int)] (.tup [.str (z03 n), .bool true]) [] := by
 have c1 := c_in (n : Int) 0 1000000000
 rw [show inB (n : Int) 0 1000000000 = true by simp only [inB, Bool.and_eq_true, decide_eq_true_eq]; omega] at c1
 have c2 := z5S n (by omega)
 generalize z03 n = v at *
 refine z01 z0j 1 rfl Tryz.func146 rfl rfl rfl ?_
 conv => arg 6; whnf
 repeat ((try conv => whnf); first | (with_reducible first | refine z0e (fun Qs hN hE hR => ?_) | refine z0c ?_ | refine z05 (fun Qb kN kE kX kR => ?_) | refine z07 ?_ | refine z08 ?_ | refine z0d ?_ | refine z09 ?_ | refine z0a ?_ | (show W _ _ _ (.cond _ _ _) _ _; refine z06 rfl ?_) | (refine hN _ ?_; try clear hN hE hR Qs; (try (conv => arg 6; dsimp only [ovl, List.set, List.map, ren0]))) | ((first | refine hE _ _ ?_ | refine hR _ ?_); try clear hN hE hR Qs) | ((first | refine kN _ ?_ | refine kE _ ?_ | refine kX _ _ rfl ?_ | refine kR _ ?_); try clear kN kE kX kR Qb)) | (refine ccA ([]) (c1) ?_) | (refine ccA ([]) (c2) ?_) | (refine And.intro (by kernel_rfl) ?_) | (refine stpQ ?_))
 (refine z00 (by rfl) ?_ ?_ (by rfl)) <;> (repeat' (first | (exact eqA) | (refine And.intro ?_ ?_) | ((fail_if_success (with_reducible (show _ = _))); (show _ = _))))
theorem zfS (k : UInt8) (ns : List Nat) (hl : ns.length ≤ 3) (hn : ∀ x ∈ ns, x ≤ 1000000) : CT Tryz.prog 110 [] [.int .u8 ((k.toNat : Nat) : Int), .sl 1 (ntE ns)] (.tup [.str (recB k ns), .bool true]) [] := by
 have hle := z4T ns
 refine z01 z0j 1 rfl Tryz.func110 rfl rfl rfl ?_
 conv => arg 6; whnf
 repeat ((try conv => whnf); first | (with_reducible first | refine z0e (fun Qs hN hE hR => ?_) | refine z0c ?_ | refine z05 (fun Qb kN kE kX kR => ?_) | refine z07 ?_ | refine z08 ?_ | refine z0d ?_ | refine z09 ?_ | refine z0a ?_ | (show W _ _ _ (.cond _ _ _) _ _; refine z06 rfl ?_) | (refine hN _ ?_; try clear hN hE hR Qs; (try (conv => arg 6; dsimp only [ovl, List.set, List.map, ren0]))) | ((first | refine hE _ _ ?_ | refine hR _ ?_); try clear hN hE hR Qs) | ((first | refine kN _ ?_ | refine kE _ ?_ | refine kX _ _ rfl ?_ | refine kR _ ?_); try clear kN kE kX kR Qb)) | (refine Exists.intro [k] (And.intro rfl ?_)) | (refine Exists.intro ns.length (And.intro hle ?_)) | (refine And.intro (by kernel_rfl) ?_) | (refine stpQ ?_))
 refine z22 Nat (fun i => ⟨[(6, .str (recB k (ns.take i))), (14, .sl 1 (ntE ns)), (15, .int .i64 ((ns.length : Nat) : Int)), (16, .int .i64 (i : Int))], [], 1⟩) (fun i => i ≤ ns.length) (fun i => ns.length - i) 0 (Nat.zero_le _) ?_ ?_
 ·(refine z04 (by rfl) ?_ ?_) <;> (repeat' (first | (exact eqA) | (refine And.intro ?_ ?_) | ((fail_if_success (with_reducible (show _ = _))); (show _ = _)))) <;> first | rfl | (simp [recB]; done)
 ·intro Q1 hQ1 i hi
  by_cases hlt : i < ns.length
  ·have f1 : (i : Int) < ((ns.length : Nat) : Int) := by omega
   have gi := zgi hlt
   have hx := hn _ (List.getElem_mem hlt)
   have c1 := zcI ns[i] (by omega)
   have hv := z0z (n := ns[i]) (by omega)
   have hnx : recB k (ns.take (i + 1)) = recB k (ns.take i) ++ z03 ns[i] := by unfold recB; rw [List.take_succ_eq_append_getElem hlt, List.flatMap_append, List.flatMap_cons, List.flatMap_nil, List.append_nil]; rfl
   have hrl : (recB k (ns.take i)).length ≤ 100 := by
    have key : ∀ l : List Nat, (∀ x ∈ l, x ≤ 1000000) → (l.flatMap z03).length ≤ 5 * l.length := fun l hl => by
     induction l with
     | nil => simp
     | cons a l ih =>
       have h1 := z0z (n := a) (by have := hl a (by simp); omega)
       have h2 := ih (fun x hx => hl x (by simp [hx]))
       simp only [List.flatMap_cons, List.length_append, List.length_cons]
       omega
    have h1 := key (ns.take i) (fun x hx => hn x (List.mem_of_mem_take hx))
    have h2 : (ns.take i).length ≤ 3 := by rw [List.length_take]; omega
    simp only [recB, List.length_cons]
    omega
   generalize recB k (ns.take i) = R at *
   generalize z03 ns[i] = v at *
   generalize ns[i] = x at *
   repeat ((try conv => whnf); first | (with_reducible first | refine z0e (fun Qs hN hE hR => ?_) | refine z0c ?_ | refine z05 (fun Qb kN kE kX kR => ?_) | refine z07 ?_ | refine z08 ?_ | refine z0d ?_ | refine z09 ?_ | refine z0a ?_ | (show W _ _ _ (.cond _ _ _) _ _; refine z06 rfl ?_) | (refine hN _ ?_; try clear hN hE hR Qs; (try (conv => arg 6; dsimp only [ovl, List.set, List.map, ren0]))) | ((first | refine hE _ _ ?_ | refine hR _ ?_); try clear hN hE hR Qs) | ((first | refine kN _ ?_ | refine kE _ ?_ | refine kX _ _ rfl ?_ | refine kR _ ?_); try clear kN kE kX kR Qb)) | (refine z0g f1 ?_) | (refine i_at gi ?_) | (refine ccA ([]) (c1) ?_) | (refine And.intro (by simp only [List.length_append]; omega) ?_) | (refine And.intro (by kernel_rfl) ?_) | (refine stpQ ?_))
   refine ⟨i + 1, hlt, by (try dsimp only); omega, ?_⟩
   (try dsimp only)
   rw [hnx]
   (refine z04 (by rfl) ?_ ?_) <;> (repeat' (first | (exact eqA) | (refine And.intro ?_ ?_) | ((fail_if_success (with_reducible (show _ = _))); (show _ = _)))) <;> rfl
  ·have hie : i = ns.length := by omega
   subst hie
   have f1 : ¬ ((ns.length : Nat) : Int) < ((ns.length : Nat) : Int) := by omega
   rw [List.take_length]
   repeat ((try conv => whnf); first | (with_reducible first | refine z0e (fun Qs hN hE hR => ?_) | refine z0c ?_ | refine z05 (fun Qb kN kE kX kR => ?_) | refine z07 ?_ | refine z08 ?_ | refine z0d ?_ | refine z09 ?_ | refine z0a ?_ | (show W _ _ _ (.cond _ _ _) _ _; refine z06 rfl ?_) | (refine hN _ ?_; try clear hN hE hR Qs; (try (conv => arg 6; dsimp only [ovl, List.set, List.map, ren0]))) | ((first | refine hE _ _ ?_ | refine hR _ ?_); try clear hN hE hR Qs) | ((first | refine kN _ ?_ | refine kE _ ?_ | refine kX _ _ rfl ?_ | refine kR _ ?_); try clear kN kE kX kR Qb)) | (refine z0b f1 ?_) | (refine And.intro (by kernel_rfl) ?_) | (refine stpQ ?_))
   refine hQ1 _ _ ?_
   clear hQ1 Q1
   repeat ((try conv => whnf); first | (with_reducible first | refine z0e (fun Qs hN hE hR => ?_) | refine z0c ?_ | refine z05 (fun Qb kN kE kX kR => ?_) | refine z07 ?_ | refine z08 ?_ | refine z0d ?_ | refine z09 ?_ | refine z0a ?_ | (show W _ _ _ (.cond _ _ _) _ _; refine z06 rfl ?_) | (refine hN _ ?_; try clear hN hE hR Qs; (try (conv => arg 6; dsimp only [ovl, List.set, List.map, ren0]))) | ((first | refine hE _ _ ?_ | refine hR _ ?_); try clear hN hE hR Qs) | ((first | refine kN _ ?_ | refine kE _ ?_ | refine kX _ _ rfl ?_ | refine kR _ ?_); try clear kN kE kX kR Qb)) | (refine And.intro (by kernel_rfl) ?_) | (refine stpQ ?_))
   (refine z00 (by rfl) ?_ ?_ (by rfl)) <;> (repeat' (first | (exact eqA) | (refine And.intro ?_ ?_) | ((fail_if_success (with_reducible (show _ = _))); (show _ = _)))) <;> rfl
end
end Go.Proofs.YthbdlnogojcnmaaGreatDoor
