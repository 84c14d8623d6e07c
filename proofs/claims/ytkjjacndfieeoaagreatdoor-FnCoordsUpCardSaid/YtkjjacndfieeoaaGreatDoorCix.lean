/- Functions by content: the program writes records into logs. Functions by content: the program writes records into logs, by the log's size. Functions by content: the program copies seals and a coordinator. Functions by content: the program's coordinator begins and gives up an epoch. Functions by content: the program's coordinator does not begin, gives up. -/
import Derived.Test.YtkjjacndfieeoaaGreatDoorSgs
import Derived.Test.YtkjjacndfieeoaaGreatDoorDk
import Derived.Test.YtkjjacndfieeoaaGreatDoorPlx
import Derived.Test.YtkjjacndfieeoaaGreatDoorCk
import Derived.Test.YtkjjacndfieeoaaGreatDoorCdw
import Derived.Test.YtkjjacndfieeoaaGreatDoorPco
import Derived.Test.YtkjjacndfieeoaaGreatDoorSp
namespace Go.Proofs.YtkjjacndfieeoaaGreatDoor
set_option maxRecDepth 100000
set_option maxHeartbeats 8000000
set_option linter.unusedVariables false
set_option linter.unusedSimpArgs false
set_option linter.unusedSectionVars false
open Go.RowKit Pl
theorem z4S {k : Nat} (l : List Fl) : ownE (.row k (flE l)) := fun e he c hc => by
 simp only [flE, List.mem_map] at he
 obtain ⟨x, _, rfl⟩ := he
 simp only [List.mem_cons, List.not_mem_nil, or_false] at hc
 rcases hc with rfl | rfl | rfl <;> trivial
theorem zdG {e : Ent} (h : ownE e) : ∀ x ∈ [e], ownE x := fun x hx => by rw [List.mem_singleton.1 hx]; exact h
section
attribute [local irreducible] z0m z0n z0q AnsP LeP W CvE
theorem z1N (l : List Fl) (h : (l.length : Int) ≤ 100000000) : CT Tryz.prog 65 [] [.agg [.sl 3 (flE l)]] (.agg [.ref 1]) [.row 3 (flE l)] := by
 have hl := z2j l
 refine z01 z0f 1 rfl Tryz.func65 rfl rfl rfl ?_
 conv => arg 6; whnf
 repeat ((try conv => whnf); first | (with_reducible first | refine z0c (fun Qs hN hE hR => ?_) | refine z0a ?_ | refine z03 (fun Qb kN kE kX kR => ?_) | refine z06 ?_ | refine z07 ?_ | refine z0b ?_ | refine z08 ?_ | refine z09 ?_ | (show W _ _ _ (.cond _ _ _) _ _; refine z05 rfl ?_) | (refine hN _ ?_; try clear hN hE hR Qs; (try (conv => arg 6; dsimp only [ovl, List.set, List.map, ren0]))) | ((first | refine hE _ _ ?_ | refine hR _ ?_); try clear hN hE hR Qs) | ((first | refine kN _ ?_ | refine kE _ ?_ | refine kX _ _ rfl ?_ | refine kR _ ?_); try clear kN kE kX kR Qb)) | (refine And.intro (by simp only [List.length_append, List.length_cons, List.length_nil, List.nil_append, List.length_replicate]; omega) ?_) | (refine And.intro (by kernel_rfl) ?_) | (refine stpQ ?_))
 (refine z00 (by rfl) ?_ ?_ (by rfl)) <;> (repeat' (first | (exact eqA) | (refine And.intro ?_ ?_) | ((fail_if_success (with_reducible (show _ = _))); (show _ = _))))
theorem zhh (t : Bs) (h : 1 ≤ t.length ∧ t.length ≤ 9000) : CT Tryz.prog 145 [] [.str t] (.tup [.str (z0J t), .bool true]) [] := by
 have c1 := c_in (t.length : Int) 1 9000
 rw [show inB (t.length : Int) 1 9000 = true by simp only [inB, Bool.and_eq_true, decide_eq_true_eq]; omega] at c1
 have c2 := z6e t.length (by omega)
 have c3 := zhO t (by omega)
 have hs := z8p t
 have c4 := zfc (z1T t) (by omega)
 have hv := z0I (n := t.length) (by omega)
 have h4 := z2E (z1T t)
 unfold z0J
 generalize z1T t = s at *
 generalize z1Z s = f at *
 generalize z0e t.length = v at *
 refine z01 z0r 1 rfl Tryz.func145 rfl rfl rfl ?_
 conv => arg 6; whnf
 repeat ((try conv => whnf); first | (with_reducible first | refine z0c (fun Qs hN hE hR => ?_) | refine z0a ?_ | refine z03 (fun Qb kN kE kX kR => ?_) | refine z06 ?_ | refine z07 ?_ | refine z0b ?_ | refine z08 ?_ | refine z09 ?_ | (show W _ _ _ (.cond _ _ _) _ _; refine z05 rfl ?_) | (refine hN _ ?_; try clear hN hE hR Qs; (try (conv => arg 6; dsimp only [ovl, List.set, List.map, ren0]))) | ((first | refine hE _ _ ?_ | refine hR _ ?_); try clear hN hE hR Qs) | ((first | refine kN _ ?_ | refine kE _ ?_ | refine kX _ _ rfl ?_ | refine kR _ ?_); try clear kN kE kX kR Qb)) | (refine ccA ([]) (c1) ?_) | (refine ccA ([]) (c2) ?_) | (refine ccA ([]) (c3) ?_) | (refine ccA ([]) (c4) ?_) | (refine And.intro (by simp only [List.length_append]; omega) ?_) | (refine And.intro (by kernel_rfl) ?_) | (refine stpQ ?_))
 (refine z00 (by rfl) ?_ ?_ (by rfl)) <;> (repeat' (first | (exact eqA) | (refine And.intro ?_ ?_) | ((fail_if_success (with_reducible (show _ = _))); (show _ = _))))
theorem zbf (n : Bs) (hn : 1 ≤ n.length ∧ n.length ≤ 8) (hx : n ≠ [110, 101, 119]) : CT Tryz.prog 146 [] [.str n] (.bool true) [] := by
 have c1 := z2t n (by omega)
 rw [z7S hn] at c1
 have e : (!decide (n = [110, 101, 119])) = true := by simp [hx]
 refine z01 z0r 1 rfl Tryz.func146 rfl rfl rfl ?_
 conv => arg 6; whnf
 repeat ((try conv => whnf); first | (with_reducible first | refine z0c (fun Qs hN hE hR => ?_) | refine z0a ?_ | refine z03 (fun Qb kN kE kX kR => ?_) | refine z06 ?_ | refine z07 ?_ | refine z0b ?_ | refine z08 ?_ | refine z09 ?_ | (show W _ _ _ (.cond _ _ _) _ _; refine z05 rfl ?_) | (refine hN _ ?_; try clear hN hE hR Qs; (try (conv => arg 6; dsimp only [ovl, List.set, List.map, ren0]))) | ((first | refine hE _ _ ?_ | refine hR _ ?_); try clear hN hE hR Qs) | ((first | refine kN _ ?_ | refine kE _ ?_ | refine kX _ _ rfl ?_ | refine kR _ ?_); try clear kN kE kX kR Qb)) | (refine ccA ([]) (c1) ?_) | (refine z2y hx ?_) | (refine And.intro (by kernel_rfl) ?_) | (refine stpQ ?_))
 (refine z00 (by rfl) ?_ ?_ (by rfl)) <;> (repeat' (first | (exact eqA) | (refine And.intro ?_ ?_) | ((fail_if_success (with_reducible (show _ = _))); (show _ = _)))) <;> first | rfl | exact e
theorem zdH (n t : Bs) (hn : 1 ≤ n.length ∧ n.length ≤ 8) (hx : n ≠ [110, 101, 119]) (ht : 1 ≤ t.length ∧ t.length ≤ 9000) : CT Tryz.prog 106 [] [.str n, .str t] (.tup [.sl 4 (acE n (z0J t)), .bool true]) [] := by
 have c1 := zhh t ht
 have c2 := zbf n hn hx
 unfold acE
 generalize z0J t = f at *
 refine z01 z0r 1 rfl Tryz.func106 rfl rfl rfl ?_
 conv => arg 6; whnf
 repeat ((try conv => whnf); first | (with_reducible first | refine z0c (fun Qs hN hE hR => ?_) | refine z0a ?_ | refine z03 (fun Qb kN kE kX kR => ?_) | refine z06 ?_ | refine z07 ?_ | refine z0b ?_ | refine z08 ?_ | refine z09 ?_ | (show W _ _ _ (.cond _ _ _) _ _; refine z05 rfl ?_) | (refine hN _ ?_; try clear hN hE hR Qs; (try (conv => arg 6; dsimp only [ovl, List.set, List.map, ren0]))) | ((first | refine hE _ _ ?_ | refine hR _ ?_); try clear hN hE hR Qs) | ((first | refine kN _ ?_ | refine kE _ ?_ | refine kX _ _ rfl ?_ | refine kR _ ?_); try clear kN kE kX kR Qb)) | (refine ccA ([]) (c1) ?_) | (refine ccA ([]) (c2) ?_) | (refine And.intro (by kernel_rfl) ?_) | (refine stpQ ?_))
 (refine z00 (by rfl) ?_ ?_ (by rfl)) <;> (repeat' (first | (exact eqA) | (refine And.intro ?_ ?_) | ((fail_if_success (with_reducible (show _ = _))); (show _ = _)))) <;> rfl
theorem zcH (n t : Bs) (hn : 1 ≤ n.length ∧ n.length ≤ 8) : CT Tryz.prog 178 [] [.agg [.int .i64 1, .str n, .str t, .str []]] (.bool true) [] := by
 have c1 := c_in 1 1 4
 rw [show inB 1 1 4 = true from rfl] at c1
 have c2 := z2t n (by omega)
 rw [z7S hn] at c2
 have f0 : ([] : Bs) = [] := rfl
 refine z01 z0r 1 rfl Tryz.func178 rfl rfl rfl ?_
 conv => arg 6; whnf
 repeat ((try conv => whnf); first | (with_reducible first | refine z0c (fun Qs hN hE hR => ?_) | refine z0a ?_ | refine z03 (fun Qb kN kE kX kR => ?_) | refine z06 ?_ | refine z07 ?_ | refine z0b ?_ | refine z08 ?_ | refine z09 ?_ | (show W _ _ _ (.cond _ _ _) _ _; refine z05 rfl ?_) | (refine hN _ ?_; try clear hN hE hR Qs; (try (conv => arg 6; dsimp only [ovl, List.set, List.map, ren0]))) | ((first | refine hE _ _ ?_ | refine hR _ ?_); try clear hN hE hR Qs) | ((first | refine kN _ ?_ | refine kE _ ?_ | refine kX _ _ rfl ?_ | refine kR _ ?_); try clear kN kE kX kR Qb)) | (refine ccA ([]) (c1) ?_) | (refine ccA ([]) (c2) ?_) | (refine z0k f0 ?_) | (refine And.intro (by kernel_rfl) ?_) | (refine stpQ ?_))
 (refine z00 (by rfl) ?_ ?_ (by rfl)) <;> (repeat' (first | (exact eqA) | (refine And.intro ?_ ?_) | ((fail_if_success (with_reducible (show _ = _))); (show _ = _)))) <;> rfl
theorem zhi (n t : Bs) (hn : 1 ≤ n.length ∧ n.length ≤ 8) : CT Tryz.prog 178 [] [.agg [.int .i64 2, .str n, .str [], .str []]] (.bool true) [] := by
 have c1 := c_in 2 1 4
 rw [show inB 2 1 4 = true from rfl] at c1
 have c2 := z2t n (by omega)
 rw [z7S hn] at c2
 have f0 : ([] : Bs) = [] := rfl
 refine z01 z0r 1 rfl Tryz.func178 rfl rfl rfl ?_
 conv => arg 6; whnf
 repeat ((try conv => whnf); first | (with_reducible first | refine z0c (fun Qs hN hE hR => ?_) | refine z0a ?_ | refine z03 (fun Qb kN kE kX kR => ?_) | refine z06 ?_ | refine z07 ?_ | refine z0b ?_ | refine z08 ?_ | refine z09 ?_ | (show W _ _ _ (.cond _ _ _) _ _; refine z05 rfl ?_) | (refine hN _ ?_; try clear hN hE hR Qs; (try (conv => arg 6; dsimp only [ovl, List.set, List.map, ren0]))) | ((first | refine hE _ _ ?_ | refine hR _ ?_); try clear hN hE hR Qs) | ((first | refine kN _ ?_ | refine kE _ ?_ | refine kX _ _ rfl ?_ | refine kR _ ?_); try clear kN kE kX kR Qb)) | (refine ccA ([]) (c1) ?_) | (refine ccA ([]) (c2) ?_) | (refine z0k f0 ?_) | (refine And.intro (by kernel_rfl) ?_) | (refine stpQ ?_))
 (refine z00 (by rfl) ?_ ?_ (by rfl)) <;> (repeat' (first | (exact eqA) | (refine And.intro ?_ ?_) | ((fail_if_success (with_reducible (show _ = _))); (show _ = _)))) <;> rfl
theorem zfY (n : Bs) (t : Bs) (ht : t.length ≤ 30000) (hn : 1 ≤ n.length ∧ n.length ≤ 8) (hd : z0X [] = true) (hB : FlB []) (hr : z0X [(n, t, 0)] = true) (hrB : FlB [(n, t, 0)]) : CT Tryz.prog 147 [] [.agg [.sl 3 (flE [])], .agg [.int .i64 1, .str n, .str t, .str []]] (.tup [.agg [.ref 1], .bool true]) [.row 3 (flE [(n, t, 0)])] := by
 have c1 := z5p [] n (by simp)
 rw [show z1z [] n = none from rfl, show ixI none = -1 from rfl] at c1
 have c2 := z2a _ (z1E hB)
 rw [hd] at c2
 have c3 := zcH n t hn
 have c4 := z1N [] (by simp)
 have c5 := z3X 1 (by decide)
 have c6 := z2a _ (z1E hrB)
 rw [hr] at c6
 have q1 : (1 : Int) = 1 := rfl
 have q2 : (2 : Int) = 2 := rfl
 have q12 : ¬ (2 : Int) = 1 := by decide
 have m1 : (-1 : Int) < 0 := by decide
 have m0 : ¬ (0 : Int) < 0 := by decide
 have nact : ¬ (1 : Int) = 1 → False := fun h => h rfl
 clear hd hr hB hrB
 unfold flE at *
 simp only [List.map_cons, List.map_nil] at *
 refine z01 z0r 1 rfl Tryz.func147 rfl rfl rfl ?_
 conv => arg 6; whnf
 repeat ((try conv => whnf); first | (with_reducible first | refine z0c (fun Qs hN hE hR => ?_) | refine z0a ?_ | refine z03 (fun Qb kN kE kX kR => ?_) | refine z06 ?_ | refine z07 ?_ | refine z0b ?_ | refine z08 ?_ | refine z09 ?_ | (show W _ _ _ (.cond _ _ _) _ _; refine z05 rfl ?_) | (refine hN _ ?_; try clear hN hE hR Qs; (try (conv => arg 6; dsimp only [ovl, List.set, List.map, ren0]))) | ((first | refine hE _ _ ?_ | refine hR _ ?_); try clear hN hE hR Qs) | ((first | refine kN _ ?_ | refine kE _ ?_ | refine kX _ _ rfl ?_ | refine kR _ ?_); try clear kN kE kX kR Qb)) | (refine ccA ([]) (c1) ?_) | (refine ccA ([]) (c2) ?_) | (refine ccA ([]) (c3) ?_) | (refine ccA ([]) (c4) ?_) | (refine z0k m1 ?_) | (refine z0k q1 ?_) | (refine z0F q1 ?_) | (refine And.intro (by simp only [List.nil_append, List.length_append, List.length_nil]; omega) ?_) | (refine Exists.intro 0 (And.intro rfl ?_)) | (refine Exists.intro 1 (And.intro rfl ?_)) | (refine ccA ([]) (c6) ?_) | (refine ccA [] (c5) ?_) | (refine And.intro (by simp only [List.length_append, List.length_set, List.length_replicate, List.length_cons, List.length_nil]; omega) ?_) | (refine And.intro (by kernel_rfl) ?_) | (refine stpQ ?_))
 (refine z00 (by rfl) ?_ ?_ (by rfl)) <;> (repeat' (first | (exact eqA) | (refine And.intro ?_ ?_) | ((fail_if_success (with_reducible (show _ = _))); (show _ = _)))) <;> rfl
theorem zfZ (n : Bs) (a t : Bs) (x : Int) (ht : a.length + t.length ≤ 60000) (hn : 1 ≤ n.length ∧ n.length ≤ 8) (hd : z0X [(n, a, x)] = true) (hB : FlB [(n, a, x)]) (hr : z0X [(n, a ++ t, x)] = true) (hrB : FlB [(n, a ++ t, x)]) : CT Tryz.prog 147 [] [.agg [.sl 3 (flE [(n, a, x)])], .agg [.int .i64 1, .str n, .str t, .str []]] (.tup [.agg [.ref 1], .bool true]) [.row 3 (flE [(n, a ++ t, x)])] := by
 have c1 := z5p [(n, a, x)] n (by simp)
 rw [zcu n a x, show ixI (some 0) = 0 from rfl] at c1
 have c2 := z2a _ (z1E hB)
 rw [hd] at c2
 have c3 := zcH n t hn
 have c4 := z1N [(n, a, x)] (by simp)
 have c5 := z3X 1 (by decide)
 have c6 := z2a _ (z1E hrB)
 rw [hr] at c6
 have q1 : (1 : Int) = 1 := rfl
 have q2 : (2 : Int) = 2 := rfl
 have q12 : ¬ (2 : Int) = 1 := by decide
 have m1 : (-1 : Int) < 0 := by decide
 have m0 : ¬ (0 : Int) < 0 := by decide
 have nact : ¬ (1 : Int) = 1 → False := fun h => h rfl
 clear hd hr hB hrB
 unfold flE at *
 simp only [List.map_cons, List.map_nil] at *
 refine z01 z0r 1 rfl Tryz.func147 rfl rfl rfl ?_
 conv => arg 6; whnf
 repeat ((try conv => whnf); first | (with_reducible first | refine z0c (fun Qs hN hE hR => ?_) | refine z0a ?_ | refine z03 (fun Qb kN kE kX kR => ?_) | refine z06 ?_ | refine z07 ?_ | refine z0b ?_ | refine z08 ?_ | refine z09 ?_ | (show W _ _ _ (.cond _ _ _) _ _; refine z05 rfl ?_) | (refine hN _ ?_; try clear hN hE hR Qs; (try (conv => arg 6; dsimp only [ovl, List.set, List.map, ren0]))) | ((first | refine hE _ _ ?_ | refine hR _ ?_); try clear hN hE hR Qs) | ((first | refine kN _ ?_ | refine kE _ ?_ | refine kX _ _ rfl ?_ | refine kR _ ?_); try clear kN kE kX kR Qb)) | (refine ccA ([]) (c1) ?_) | (refine ccA ([]) (c2) ?_) | (refine ccA ([]) (c3) ?_) | (refine ccA ([]) (c4) ?_) | (refine z0o m0 ?_) | (refine z0k q1 ?_) | (refine And.intro (by simp only [List.length_append]; omega) ?_) | (refine Exists.intro 0 (And.intro rfl ?_)) | (refine Exists.intro 1 (And.intro rfl ?_)) | (refine ccA ([]) (c6) ?_) | (refine ccA [] (c5) ?_) | (refine And.intro (by simp only [List.length_append, List.length_set, List.length_replicate, List.length_cons, List.length_nil]; omega) ?_) | (refine And.intro (by kernel_rfl) ?_) | (refine stpQ ?_))
 (refine z00 (by rfl) ?_ ?_ (by rfl)) <;> (repeat' (first | (exact eqA) | (refine And.intro ?_ ?_) | ((fail_if_success (with_reducible (show _ = _))); (show _ = _)))) <;> rfl
theorem zg0 (n : Bs) (a : Bs) (x : Int) (ha : a.length ≤ 30000) (hn : 1 ≤ n.length ∧ n.length ≤ 8) (hd : z0X [(n, a, x)] = true) (hB : FlB [(n, a, x)]) (hr : z0X [(n, a, (a.length : Int))] = true) (hrB : FlB [(n, a, (a.length : Int))]) : CT Tryz.prog 147 [] [.agg [.sl 3 (flE [(n, a, x)])], .agg [.int .i64 2, .str n, .str [], .str []]] (.tup [.agg [.ref 1], .bool true]) [.row 3 (flE [(n, a, (a.length : Int))])] := by
 have c1 := z5p [(n, a, x)] n (by simp)
 rw [zcu n a x, show ixI (some 0) = 0 from rfl] at c1
 have c2 := z2a _ (z1E hB)
 rw [hd] at c2
 have c3 := zhi n [] hn
 have c4 := z1N [(n, a, x)] (by simp)
 have c5 := z3X 1 (by decide)
 have c6 := z2a _ (z1E hrB)
 rw [hr] at c6
 have q1 : (1 : Int) = 1 := rfl
 have q2 : (2 : Int) = 2 := rfl
 have q12 : ¬ (2 : Int) = 1 := by decide
 have m1 : (-1 : Int) < 0 := by decide
 have m0 : ¬ (0 : Int) < 0 := by decide
 have nact : ¬ (1 : Int) = 1 → False := fun h => h rfl
 clear hd hr hB hrB
 unfold flE at *
 simp only [List.map_cons, List.map_nil] at *
 refine z01 z0r 1 rfl Tryz.func147 rfl rfl rfl ?_
 conv => arg 6; whnf
 repeat ((try conv => whnf); first | (with_reducible first | refine z0c (fun Qs hN hE hR => ?_) | refine z0a ?_ | refine z03 (fun Qb kN kE kX kR => ?_) | refine z06 ?_ | refine z07 ?_ | refine z0b ?_ | refine z08 ?_ | refine z09 ?_ | (show W _ _ _ (.cond _ _ _) _ _; refine z05 rfl ?_) | (refine hN _ ?_; try clear hN hE hR Qs; (try (conv => arg 6; dsimp only [ovl, List.set, List.map, ren0]))) | ((first | refine hE _ _ ?_ | refine hR _ ?_); try clear hN hE hR Qs) | ((first | refine kN _ ?_ | refine kE _ ?_ | refine kX _ _ rfl ?_ | refine kR _ ?_); try clear kN kE kX kR Qb)) | (refine ccA ([]) (c1) ?_) | (refine ccA ([]) (c2) ?_) | (refine ccA ([]) (c3) ?_) | (refine ccA ([]) (c4) ?_) | (refine z0o m0 ?_) | (refine z0o q12 ?_) | (refine z0k q2 ?_) | (refine Exists.intro 0 (And.intro rfl ?_)) | (refine Exists.intro 1 (And.intro rfl ?_)) | (refine ccA ([]) (c6) ?_) | (refine ccA [] (c5) ?_) | (refine And.intro (by simp only [List.length_append, List.length_set, List.length_replicate, List.length_cons, List.length_nil]; omega) ?_) | (refine And.intro (by kernel_rfl) ?_) | (refine stpQ ?_))
 (refine z00 (by rfl) ?_ ?_ (by rfl)) <;> (repeat' (first | (exact eqA) | (refine And.intro ?_ ?_) | ((fail_if_success (with_reducible (show _ = _))); (show _ = _)))) <;> rfl
theorem zdI (n : Nat) (hn : (n : Int) ≤ 1000000000) : CT Tryz.prog 105 [] [.int .i64 (n : Int)] (.tup [.str (z0e n), .bool true]) [] := by
 have c1 := c_in (n : Int) 0 1000000000
 rw [show inB (n : Int) 0 1000000000 = true by simp only [inB, Bool.and_eq_true, decide_eq_true_eq]; omega] at c1
 have c2 := z6e n (by omega)
 generalize z0e n = v at *
 refine z01 z0r 1 rfl Tryz.func105 rfl rfl rfl ?_
 conv => arg 6; whnf
 repeat ((try conv => whnf); first | (with_reducible first | refine z0c (fun Qs hN hE hR => ?_) | refine z0a ?_ | refine z03 (fun Qb kN kE kX kR => ?_) | refine z06 ?_ | refine z07 ?_ | refine z0b ?_ | refine z08 ?_ | refine z09 ?_ | (show W _ _ _ (.cond _ _ _) _ _; refine z05 rfl ?_) | (refine hN _ ?_; try clear hN hE hR Qs; (try (conv => arg 6; dsimp only [ovl, List.set, List.map, ren0]))) | ((first | refine hE _ _ ?_ | refine hR _ ?_); try clear hN hE hR Qs) | ((first | refine kN _ ?_ | refine kE _ ?_ | refine kX _ _ rfl ?_ | refine kR _ ?_); try clear kN kE kX kR Qb)) | (refine ccA ([]) (c1) ?_) | (refine ccA ([]) (c2) ?_) | (refine And.intro (by kernel_rfl) ?_) | (refine stpQ ?_))
 (refine z00 (by rfl) ?_ ?_ (by rfl)) <;> (repeat' (first | (exact eqA) | (refine And.intro ?_ ?_) | ((fail_if_success (with_reducible (show _ = _))); (show _ = _))))
theorem zcI (k : UInt8) (ns : List Nat) (hl : ns.length ≤ 3) (hn : ∀ x ∈ ns, x ≤ 1000000) : CT Tryz.prog 68 [] [.int .u8 ((k.toNat : Nat) : Int), .sl 1 (ntE ns)] (.tup [.str (recB k ns), .bool true]) [] := by
 have hle := z7A ns
 refine z01 z0r 1 rfl Tryz.func68 rfl rfl rfl ?_
 conv => arg 6; whnf
 repeat ((try conv => whnf); first | (with_reducible first | refine z0c (fun Qs hN hE hR => ?_) | refine z0a ?_ | refine z03 (fun Qb kN kE kX kR => ?_) | refine z06 ?_ | refine z07 ?_ | refine z0b ?_ | refine z08 ?_ | refine z09 ?_ | (show W _ _ _ (.cond _ _ _) _ _; refine z05 rfl ?_) | (refine hN _ ?_; try clear hN hE hR Qs; (try (conv => arg 6; dsimp only [ovl, List.set, List.map, ren0]))) | ((first | refine hE _ _ ?_ | refine hR _ ?_); try clear hN hE hR Qs) | ((first | refine kN _ ?_ | refine kE _ ?_ | refine kX _ _ rfl ?_ | refine kR _ ?_); try clear kN kE kX kR Qb)) | (refine Exists.intro [k] (And.intro rfl ?_)) | (refine Exists.intro ns.length (And.intro hle ?_)) | (refine And.intro (by kernel_rfl) ?_) | (refine stpQ ?_))
 refine z11 Nat (fun i => ⟨[(6, .str (recB k (ns.take i))), (14, .sl 1 (ntE ns)), (15, .int .i64 ((ns.length : Nat) : Int)), (16, .int .i64 (i : Int))], [], 1⟩) (fun i => i ≤ ns.length) (fun i => ns.length - i) 0 (Nat.zero_le _) ?_ ?_
 ·(refine z02 (by rfl) ?_ ?_) <;> (repeat' (first | (exact eqA) | (refine And.intro ?_ ?_) | ((fail_if_success (with_reducible (show _ = _))); (show _ = _)))) <;> first | rfl | (simp [recB]; done)
 ·intro Q1 hQ1 i hi
  by_cases hlt : i < ns.length
  ·have f1 : (i : Int) < ((ns.length : Nat) : Int) := by omega
   have gi := zhQ hlt
   have hx := hn _ (List.getElem_mem hlt)
   have c1 := zdI ns[i] (by omega)
   have hv := z0I (n := ns[i]) (by omega)
   have hnx : recB k (ns.take (i + 1)) = recB k (ns.take i) ++ z0e ns[i] := by unfold recB; rw [List.take_succ_eq_append_getElem hlt, List.flatMap_append, List.flatMap_cons, List.flatMap_nil, List.append_nil]; rfl
   have hrl : (recB k (ns.take i)).length ≤ 100 := by
    have key : ∀ l : List Nat, (∀ x ∈ l, x ≤ 1000000) → (l.flatMap z0e).length ≤ 5 * l.length := fun l hl => by
     induction l with
     | nil => simp
     | cons a l ih =>
       have h1 := z0I (n := a) (by have := hl a (by simp); omega)
       have h2 := ih (fun x hx => hl x (by simp [hx]))
       simp only [List.flatMap_cons, List.length_append, List.length_cons]
       omega
    have h1 := key (ns.take i) (fun x hx => hn x (List.mem_of_mem_take hx))
    have h2 : (ns.take i).length ≤ 3 := by rw [List.length_take]; omega
    simp only [recB, List.length_cons]
    omega
   generalize recB k (ns.take i) = R at *
   generalize z0e ns[i] = v at *
   generalize ns[i] = x at *
   repeat ((try conv => whnf); first | (with_reducible first | refine z0c (fun Qs hN hE hR => ?_) | refine z0a ?_ | refine z03 (fun Qb kN kE kX kR => ?_) | refine z06 ?_ | refine z07 ?_ | refine z0b ?_ | refine z08 ?_ | refine z09 ?_ | (show W _ _ _ (.cond _ _ _) _ _; refine z05 rfl ?_) | (refine hN _ ?_; try clear hN hE hR Qs; (try (conv => arg 6; dsimp only [ovl, List.set, List.map, ren0]))) | ((first | refine hE _ _ ?_ | refine hR _ ?_); try clear hN hE hR Qs) | ((first | refine kN _ ?_ | refine kE _ ?_ | refine kX _ _ rfl ?_ | refine kR _ ?_); try clear kN kE kX kR Qb)) | (refine z0k f1 ?_) | (refine i_at gi ?_) | (refine ccA ([]) (c1) ?_) | (refine And.intro (by simp only [List.length_append]; omega) ?_) | (refine And.intro (by kernel_rfl) ?_) | (refine stpQ ?_))
   refine ⟨i + 1, hlt, by (try dsimp only); omega, ?_⟩
   (try dsimp only)
   rw [hnx]
   (refine z02 (by rfl) ?_ ?_) <;> (repeat' (first | (exact eqA) | (refine And.intro ?_ ?_) | ((fail_if_success (with_reducible (show _ = _))); (show _ = _)))) <;> rfl
  ·have hie : i = ns.length := by omega
   subst hie
   have f1 : ¬ ((ns.length : Nat) : Int) < ((ns.length : Nat) : Int) := by omega
   rw [List.take_length]
   repeat ((try conv => whnf); first | (with_reducible first | refine z0c (fun Qs hN hE hR => ?_) | refine z0a ?_ | refine z03 (fun Qb kN kE kX kR => ?_) | refine z06 ?_ | refine z07 ?_ | refine z0b ?_ | refine z08 ?_ | refine z09 ?_ | (show W _ _ _ (.cond _ _ _) _ _; refine z05 rfl ?_) | (refine hN _ ?_; try clear hN hE hR Qs; (try (conv => arg 6; dsimp only [ovl, List.set, List.map, ren0]))) | ((first | refine hE _ _ ?_ | refine hR _ ?_); try clear hN hE hR Qs) | ((first | refine kN _ ?_ | refine kE _ ?_ | refine kX _ _ rfl ?_ | refine kR _ ?_); try clear kN kE kX kR Qb)) | (refine z0o f1 ?_) | (refine And.intro (by kernel_rfl) ?_) | (refine stpQ ?_))
   refine hQ1 _ _ ?_
   clear hQ1 Q1
   repeat ((try conv => whnf); first | (with_reducible first | refine z0c (fun Qs hN hE hR => ?_) | refine z0a ?_ | refine z03 (fun Qb kN kE kX kR => ?_) | refine z06 ?_ | refine z07 ?_ | refine z0b ?_ | refine z08 ?_ | refine z09 ?_ | (show W _ _ _ (.cond _ _ _) _ _; refine z05 rfl ?_) | (refine hN _ ?_; try clear hN hE hR Qs; (try (conv => arg 6; dsimp only [ovl, List.set, List.map, ren0]))) | ((first | refine hE _ _ ?_ | refine hR _ ?_); try clear hN hE hR Qs) | ((first | refine kN _ ?_ | refine kE _ ?_ | refine kX _ _ rfl ?_ | refine kR _ ?_); try clear kN kE kX kR Qb)) | (refine And.intro (by kernel_rfl) ?_) | (refine stpQ ?_))
   (refine z00 (by rfl) ?_ ?_ (by rfl)) <;> (repeat' (first | (exact eqA) | (refine And.intro ?_ ?_) | ((fail_if_success (with_reducible (show _ = _))); (show _ = _)))) <;> rfl
end
end Go.Proofs.YtkjjacndfieeoaaGreatDoor
namespace Go.Proofs.YtkjjacndfieeoaaGreatDoor
set_option maxRecDepth 100000
set_option maxHeartbeats 8000000
set_option linter.unusedVariables false
set_option linter.unusedSimpArgs false
set_option linter.unusedSectionVars false
open Go.RowKit Pl
section
attribute [local irreducible] z0m z0n z0q AnsP LeP W CvE
theorem zg1 (n t : Bs) (ts : List Bs) (hn : 1 ≤ n.length ∧ n.length ≤ 8) (ht : 1 ≤ t.length ∧ t.length ≤ 9000) (h : (logB (ts ++ [t])).length ≤ 18000) : CT Tryz.prog 147 [] [.agg [.sl 3 (flE (dkOf n ts))], .agg [.int .i64 1, .str n, .str (z0J t), .str []]] (.tup [.agg [.ref 1], .bool true]) [.row 3 (flE (z31 n ts t))] := by
 have h1 : (logB ts).length ≤ 18000 := Nat.le_trans (z4x ts t) h
 have hfl := (z2K (t := t) (by omega)).2
 have hl := h1
 have r1 := z4y hn h
 have r2 := z5y hn.2 h
 have r3 := z7Q hn h1
 have r4 := z1k (n := n) hn.2 h1
 by_cases e : ts = []
 ·subst e
  have e1 : z31 n [] t = [(n, z0J t, 0)] := by rw [z31, List.nil_append, z4q]; rfl
  rw [e1] at r1 r2 ⊢
  rw [zct] at r3 r4 ⊢
  exact zfY n (z0J t) (by omega) hn r3 r4 r1 r2
 ·have e1 : z31 n ts t = [(n, logB ts ++ z0J t, ((logB ts).length : Int))] := by rw [z31, z5u, z4q]
  rw [e1] at r1 r2 ⊢
  rw [z3k e] at r3 r4 ⊢
  exact zfZ n (logB ts) (z0J t) _ (by omega) hn r3 r4 r1 r2
theorem zdJ (n t : Bs) (ts : List Bs) (hn : 1 ≤ n.length ∧ n.length ≤ 8) (ht : 1 ≤ t.length ∧ t.length ≤ 9000) (h : (logB (ts ++ [t])).length ≤ 18000) : CT Tryz.prog 147 [] [.agg [.sl 3 (flE (z31 n ts t))], .agg [.int .i64 2, .str n, .str [], .str []]] (.tup [.agg [.ref 1], .bool true]) [.row 3 (flE (dkOf n (ts ++ [t])))] := by
 have hl := h
 have r1 := z4y hn h
 have r2 := z5y hn.2 h
 have r3 := z7Q hn h
 have r4 := z1k (n := n) hn.2 h
 rw [zhV] at r3 r4 ⊢
 exact zg0 n _ _ (by omega) hn r1 r2 r3 r4
theorem zdK (n t : Bs) (ts : List Bs) (hn : 1 ≤ n.length ∧ n.length ≤ 8) (ht : 1 ≤ t.length ∧ t.length ≤ 9000) (h : (logB (ts ++ [t])).length ≤ 18000) : CT Tryz.prog 107 [] [.agg [.sl 3 (flE (dkOf n ts))], .sl 4 (acE n (z0J t))] (.tup [.agg [.ref 1], .int .i64 2]) [.row 3 (flE (dkOf n (ts ++ [t])))] := by
 have h1 : (logB ts).length ≤ 18000 := Nat.le_trans (z4x ts t) h
 have a1 := zg1 n t ts hn ht h
 have a2 := zdJ n t ts hn ht h
 have o1 := zdG (z4S (k := 3) (z31 n ts t))
 have o2 := zdG (z4S (k := 3) (dkOf n (ts ++ [t])))
 have a0 := z1N (dkOf n ts) (by have := (z1k (n := n) hn.2 h1).1; omega)
 generalize flE (dkOf n (ts ++ [t])) = d2 at *
 generalize flE (z31 n ts t) = d1 at *
 generalize flE (dkOf n ts) = d0 at *
 generalize z0J t = f at *
 have hac : (acE n f).length = 2 := rfl
 have g0 : (acE n f)[0]? = some [.int .i64 1, .str n, .str f, .str []] := rfl
 have g1 : (acE n f)[1]? = some [.int .i64 2, .str n, .str [], .str []] := rfl
 generalize acE n f = A at *
 clear h h1 hn ht
 refine z01 z0r 1 rfl Tryz.func107 rfl rfl rfl ?_
 conv => arg 6; whnf
 repeat ((try conv => whnf); first | (with_reducible first | refine z0c (fun Qs hN hE hR => ?_) | refine z0a ?_ | refine z03 (fun Qb kN kE kX kR => ?_) | refine z06 ?_ | refine z07 ?_ | refine z0b ?_ | refine z08 ?_ | refine z09 ?_ | (show W _ _ _ (.cond _ _ _) _ _; refine z05 rfl ?_) | (refine hN _ ?_; try clear hN hE hR Qs; (try (conv => arg 6; dsimp only [ovl, List.set, List.map, ren0]))) | ((first | refine hE _ _ ?_ | refine hR _ ?_); try clear hN hE hR Qs) | ((first | refine kN _ ?_ | refine kE _ ?_ | refine kX _ _ rfl ?_ | refine kR _ ?_); try clear kN kE kX kR Qb)) | (refine ccA ([]) (a0) ?_) | (refine Exists.intro 2 (And.intro hac ?_)) | (refine And.intro (by kernel_rfl) ?_) | (refine stpQ ?_))
 refine z11 Nat (fun i => ⟨[(1, .sl 4 A), (4, .ptr 1 0 0), (6, .ptr 2 0 0), (13, .sl 4 A), (14, .int .i64 ((2 : Nat) : Int)), (15, .int .i64 (i : Int))], [(1, some (.box [.val nilV])), (2, some (.box [.ref 3])), (3, some (.row 3 (if i = 0 then d0 else if i = 1 then d1 else d2)))], 4⟩) (fun i => i ≤ 2) (fun i => 2 - i) 0 (by decide) ?_ ?_
 ·(refine z02 (by rfl) ?_ ?_) <;> (repeat' (first | (exact eqA) | (refine And.intro ?_ ?_) | ((fail_if_success (with_reducible (show _ = _))); (show _ = _)))) <;> first | rfl | (simp; done)
 ·intro Q1 hQ1 i hi
  have hc : i = 0 ∨ i = 1 ∨ i = 2 := by omega
  rcases hc with hc | hc | hc
  ·subst hc
   have f1 : ((0 : Nat) : Int) < ((2 : Nat) : Int) := by decide
   rw [if_pos rfl]
   repeat ((try conv => whnf); first | (with_reducible first | refine z0c (fun Qs hN hE hR => ?_) | refine z0a ?_ | refine z03 (fun Qb kN kE kX kR => ?_) | refine z06 ?_ | refine z07 ?_ | refine z0b ?_ | refine z08 ?_ | refine z09 ?_ | (show W _ _ _ (.cond _ _ _) _ _; refine z05 rfl ?_) | (refine hN _ ?_; try clear hN hE hR Qs; (try (conv => arg 6; dsimp only [ovl, List.set, List.map, ren0]))) | ((first | refine hE _ _ ?_ | refine hR _ ?_); try clear hN hE hR Qs) | ((first | refine kN _ ?_ | refine kE _ ?_ | refine kX _ _ rfl ?_ | refine kR _ ?_); try clear kN kE kX kR Qb)) | (refine z0k f1 ?_) | (refine i_at g0 ?_) | (refine ccA [] (a1) ?_ (h5 := .inr (And.intro (by simp [own2, own1, own0]) o1))) | (refine And.intro (by kernel_rfl) ?_) | (refine stpQ ?_))
   refine ⟨1, by decide, by decide, ?_⟩
   (refine z02 (by rfl) ?_ ?_) <;> (repeat' (first | (exact eqA) | (refine And.intro ?_ ?_) | ((fail_if_success (with_reducible (show _ = _))); (show _ = _)))) <;> rfl
  ·subst hc
   have f1 : ((1 : Nat) : Int) < ((2 : Nat) : Int) := by decide
   rw [if_neg (by decide), if_pos rfl]
   repeat ((try conv => whnf); first | (with_reducible first | refine z0c (fun Qs hN hE hR => ?_) | refine z0a ?_ | refine z03 (fun Qb kN kE kX kR => ?_) | refine z06 ?_ | refine z07 ?_ | refine z0b ?_ | refine z08 ?_ | refine z09 ?_ | (show W _ _ _ (.cond _ _ _) _ _; refine z05 rfl ?_) | (refine hN _ ?_; try clear hN hE hR Qs; (try (conv => arg 6; dsimp only [ovl, List.set, List.map, ren0]))) | ((first | refine hE _ _ ?_ | refine hR _ ?_); try clear hN hE hR Qs) | ((first | refine kN _ ?_ | refine kE _ ?_ | refine kX _ _ rfl ?_ | refine kR _ ?_); try clear kN kE kX kR Qb)) | (refine z0k f1 ?_) | (refine i_at g1 ?_) | (refine ccA [] (a2) ?_ (h5 := .inr (And.intro (by simp [own2, own1, own0]) o2))) | (refine And.intro (by kernel_rfl) ?_) | (refine stpQ ?_))
   refine ⟨2, by decide, by decide, ?_⟩
   (refine z02 (by rfl) ?_ ?_) <;> (repeat' (first | (exact eqA) | (refine And.intro ?_ ?_) | ((fail_if_success (with_reducible (show _ = _))); (show _ = _)))) <;> rfl
  ·subst hc
   have f1 : ¬ ((2 : Nat) : Int) < ((2 : Nat) : Int) := by decide
   rw [if_neg (by decide), if_neg (by decide)]
   repeat ((try conv => whnf); first | (with_reducible first | refine z0c (fun Qs hN hE hR => ?_) | refine z0a ?_ | refine z03 (fun Qb kN kE kX kR => ?_) | refine z06 ?_ | refine z07 ?_ | refine z0b ?_ | refine z08 ?_ | refine z09 ?_ | (show W _ _ _ (.cond _ _ _) _ _; refine z05 rfl ?_) | (refine hN _ ?_; try clear hN hE hR Qs; (try (conv => arg 6; dsimp only [ovl, List.set, List.map, ren0]))) | ((first | refine hE _ _ ?_ | refine hR _ ?_); try clear hN hE hR Qs) | ((first | refine kN _ ?_ | refine kE _ ?_ | refine kX _ _ rfl ?_ | refine kR _ ?_); try clear kN kE kX kR Qb)) | (refine z0o f1 ?_) | (refine And.intro (by kernel_rfl) ?_) | (refine stpQ ?_))
   refine hQ1 _ _ ?_
   clear hQ1 Q1
   repeat ((try conv => whnf); first | (with_reducible first | refine z0c (fun Qs hN hE hR => ?_) | refine z0a ?_ | refine z03 (fun Qb kN kE kX kR => ?_) | refine z06 ?_ | refine z07 ?_ | refine z0b ?_ | refine z08 ?_ | refine z09 ?_ | (show W _ _ _ (.cond _ _ _) _ _; refine z05 rfl ?_) | (refine hN _ ?_; try clear hN hE hR Qs; (try (conv => arg 6; dsimp only [ovl, List.set, List.map, ren0]))) | ((first | refine hE _ _ ?_ | refine hR _ ?_); try clear hN hE hR Qs) | ((first | refine kN _ ?_ | refine kE _ ?_ | refine kX _ _ rfl ?_ | refine kR _ ?_); try clear kN kE kX kR Qb)) | (refine Exists.intro 2 (And.intro hac ?_)) | (refine And.intro (by kernel_rfl) ?_) | (refine stpQ ?_))
   (refine z00 (by rfl) ?_ ?_ (by rfl)) <;> (repeat' (first | (exact eqA) | (refine And.intro ?_ ?_) | ((fail_if_success (with_reducible (show _ = _))); (show _ = _)))) <;> rfl
theorem za9 (n t : Bs) (ts : List Bs) (hn : 1 ≤ n.length ∧ n.length ≤ 8) (hx : n ≠ [110, 101, 119]) (ht : 1 ≤ t.length ∧ t.length ≤ 9000) (h : (logB (ts ++ [t])).length ≤ 18000) : CT Tryz.prog 69 [] [.agg [.sl 3 (flE (dkOf n ts))], .str n, .str t] (.tup [.agg [.ref 1], .bool true]) [.row 3 (flE (dkOf n (ts ++ [t])))] := by
 have c1 := zdH n t hn hx ht
 have c2 := zdK n t ts hn ht h
 have o2 := zdG (z4S (k := 3) (dkOf n (ts ++ [t])))
 have hac : (acE n (z0J t)).length = 2 := rfl
 generalize acE n (z0J t) = A at *
 generalize flE (dkOf n (ts ++ [t])) = d2 at *
 generalize flE (dkOf n ts) = d0 at *
 have f2 : (2 : Int) = ((2 : Nat) : Int) := rfl
 clear h hn ht hx
 refine z01 z0r 1 rfl Tryz.func69 rfl rfl rfl ?_
 conv => arg 6; whnf
 repeat ((try conv => whnf); first | (with_reducible first | refine z0c (fun Qs hN hE hR => ?_) | refine z0a ?_ | refine z03 (fun Qb kN kE kX kR => ?_) | refine z06 ?_ | refine z07 ?_ | refine z0b ?_ | refine z08 ?_ | refine z09 ?_ | (show W _ _ _ (.cond _ _ _) _ _; refine z05 rfl ?_) | (refine hN _ ?_; try clear hN hE hR Qs; (try (conv => arg 6; dsimp only [ovl, List.set, List.map, ren0]))) | ((first | refine hE _ _ ?_ | refine hR _ ?_); try clear hN hE hR Qs) | ((first | refine kN _ ?_ | refine kE _ ?_ | refine kX _ _ rfl ?_ | refine kR _ ?_); try clear kN kE kX kR Qb)) | (refine ccA ([]) (c1) ?_) | (refine ccA [] (c2) ?_ (h5 := .inr (And.intro (by simp [own2, own1, own0]) o2))) | (refine Exists.intro 2 (And.intro hac ?_)) | (refine z0k f2 ?_) | (refine And.intro (by kernel_rfl) ?_) | (refine stpQ ?_))
 (refine z00 (by rfl) ?_ ?_ (by rfl)) <;> (repeat' (first | (exact eqA) | (refine And.intro ?_ ?_) | ((fail_if_success (with_reducible (show _ = _))); (show _ = _)))) <;> rfl
theorem zhj (n : Bs) (k : UInt8) (ns : List Nat) (ts : List Bs) (hl : ns.length ≤ 3) (hns : ∀ x ∈ ns, x ≤ 1000000) (hn : 1 ≤ n.length ∧ n.length ≤ 8) (hx : n ≠ [110, 101, 119]) (ht : 1 ≤ (recB k ns).length ∧ (recB k ns).length ≤ 9000) (h : (logB (ts ++ [recB k ns])).length ≤ 18000) : CT Tryz.prog 29 [] [.agg [.sl 3 (flE (dkOf n ts))], .str n, .int .u8 ((k.toNat : Nat) : Int), .sl 1 (ntE ns)] (.tup [.agg [.ref 1], .bool true]) [.row 3 (flE (dkOf n (ts ++ [recB k ns])))] := by
 have c1 := zcI k ns hl hns
 have c2 := za9 n (recB k ns) ts hn hx ht h
 have o2 := zdG (z4S (k := 3) (dkOf n (ts ++ [recB k ns])))
 generalize flE (dkOf n (ts ++ [recB k ns])) = d2 at *
 generalize flE (dkOf n ts) = d0 at *
 generalize recB k ns = r at *
 clear h hn ht hx
 refine z01 z0r 1 rfl Tryz.func29 rfl rfl rfl ?_
 conv => arg 6; whnf
 repeat ((try conv => whnf); first | (with_reducible first | refine z0c (fun Qs hN hE hR => ?_) | refine z0a ?_ | refine z03 (fun Qb kN kE kX kR => ?_) | refine z06 ?_ | refine z07 ?_ | refine z0b ?_ | refine z08 ?_ | refine z09 ?_ | (show W _ _ _ (.cond _ _ _) _ _; refine z05 rfl ?_) | (refine hN _ ?_; try clear hN hE hR Qs; (try (conv => arg 6; dsimp only [ovl, List.set, List.map, ren0]))) | ((first | refine hE _ _ ?_ | refine hR _ ?_); try clear hN hE hR Qs) | ((first | refine kN _ ?_ | refine kE _ ?_ | refine kX _ _ rfl ?_ | refine kR _ ?_); try clear kN kE kX kR Qb)) | (refine ccA ([]) (c1) ?_) | (refine ccA [] (c2) ?_ (h5 := .inr (And.intro (by simp [own2, own1, own0]) o2))) | (refine And.intro (by kernel_rfl) ?_) | (refine stpQ ?_))
 (refine z00 (by rfl) ?_ ?_ (by rfl)) <;> (repeat' (first | (exact eqA) | (refine And.intro ?_ ?_) | ((fail_if_success (with_reducible (show _ = _))); (show _ = _)))) <;> rfl
end
end Go.Proofs.YtkjjacndfieeoaaGreatDoor
namespace Go.Proofs.YtkjjacndfieeoaaGreatDoor
set_option maxRecDepth 100000
set_option maxHeartbeats 8000000
set_option linter.unusedVariables false
set_option linter.unusedSimpArgs false
set_option linter.unusedSectionVars false
open Go.RowKit Pl
section
attribute [local irreducible] z0m z0n z0q AnsP LeP W CvE
theorem zbg (l : List Fl) (h : (l.length : Int) ≤ 100000000) : CT Tryz.prog 65 [] [.agg [.sl 3 (flE l)]] (.agg [.sl 3 (flE l)]) [] := by
 have hl := z2j l
 refine z01 z0f 1 rfl Tryz.func65 rfl rfl rfl ?_
 conv => arg 6; whnf
 repeat ((try conv => whnf); first | (with_reducible first | refine z0c (fun Qs hN hE hR => ?_) | refine z0a ?_ | refine z03 (fun Qb kN kE kX kR => ?_) | refine z06 ?_ | refine z07 ?_ | refine z0b ?_ | refine z08 ?_ | refine z09 ?_ | (show W _ _ _ (.cond _ _ _) _ _; refine z05 rfl ?_) | (refine hN _ ?_; try clear hN hE hR Qs; (try (conv => arg 6; dsimp only [ovl, List.set, List.map, ren0]))) | ((first | refine hE _ _ ?_ | refine hR _ ?_); try clear hN hE hR Qs) | ((first | refine kN _ ?_ | refine kE _ ?_ | refine kX _ _ rfl ?_ | refine kR _ ?_); try clear kN kE kX kR Qb)) | (refine And.intro (by simp only [List.length_append, List.length_cons, List.length_nil, List.nil_append, List.length_replicate]; omega) ?_) | (refine And.intro (by kernel_rfl) ?_) | (refine stpQ ?_))
 (refine z00 (by rfl) ?_ ?_ (by rfl)) <;> (repeat' (first | (exact eqA) | (refine And.intro ?_ ?_) | ((fail_if_success (with_reducible (show _ = _))); (show _ = _))))
theorem zaa (l : List Bs) (h : (l.length : Int) ≤ 100000000) : CT Tryz.prog 66 [] [.sl 1 (strE l)] (.ref 1) [.row 1 (strE l)] := by
 have hl := z0d l
 refine z01 z0f 1 rfl Tryz.func66 rfl rfl rfl ?_
 conv => arg 6; whnf
 repeat ((try conv => whnf); first | (with_reducible first | refine z0c (fun Qs hN hE hR => ?_) | refine z0a ?_ | refine z03 (fun Qb kN kE kX kR => ?_) | refine z06 ?_ | refine z07 ?_ | refine z0b ?_ | refine z08 ?_ | refine z09 ?_ | (show W _ _ _ (.cond _ _ _) _ _; refine z05 rfl ?_) | (refine hN _ ?_; try clear hN hE hR Qs; (try (conv => arg 6; dsimp only [ovl, List.set, List.map, ren0]))) | ((first | refine hE _ _ ?_ | refine hR _ ?_); try clear hN hE hR Qs) | ((first | refine kN _ ?_ | refine kE _ ?_ | refine kX _ _ rfl ?_ | refine kR _ ?_); try clear kN kE kX kR Qb)) | (refine And.intro (by simp only [List.length_append, List.length_cons, List.length_nil, List.nil_append, List.length_replicate, List.length_set]; omega) ?_) | (refine And.intro (by kernel_rfl) ?_) | (refine stpQ ?_))
 (refine z00 (by rfl) ?_ ?_ (by rfl)) <;> (repeat' (first | (exact eqA) | (refine And.intro ?_ ?_) | ((fail_if_success (with_reducible (show _ = _))); (show _ = _))))
theorem zdL (g : Sg) (gg : g.good) : CT Tryz.prog 143 [] [.agg (sgE g)] (.agg (sgE g)) [] := by
 have c1 := z1W g.op (by have := gg.2.1.1; omega)
 have c2 := z1W g.sh (by have := gg.2.2.1.1; omega)
 have c3 := z1W g.si (by have := gg.2.2.2.1; omega)
 unfold sgE
 clear gg
 generalize strE g.op = z1 at *
 generalize strE g.sh = z2 at *
 generalize strE g.si = z3 at *
 generalize (g.a : Int) = a at *
 refine z01 z0f 1 rfl Tryz.func143 rfl rfl rfl ?_
 conv => arg 6; whnf
 repeat ((try conv => whnf); first | (with_reducible first | refine z0c (fun Qs hN hE hR => ?_) | refine z0a ?_ | refine z03 (fun Qb kN kE kX kR => ?_) | refine z06 ?_ | refine z07 ?_ | refine z0b ?_ | refine z08 ?_ | refine z09 ?_ | (show W _ _ _ (.cond _ _ _) _ _; refine z05 rfl ?_) | (refine hN _ ?_; try clear hN hE hR Qs; (try (conv => arg 6; dsimp only [ovl, List.set, List.map, ren0]))) | ((first | refine hE _ _ ?_ | refine hR _ ?_); try clear hN hE hR Qs) | ((first | refine kN _ ?_ | refine kE _ ?_ | refine kX _ _ rfl ?_ | refine kR _ ?_); try clear kN kE kX kR Qb)) | (refine ccA ([]) (c1) ?_) | (refine ccA ([]) (c2) ?_) | (refine ccA ([]) (c3) ?_) | (refine And.intro (by kernel_rfl) ?_) | (refine stpQ ?_))
 (refine z00 (by rfl) ?_ ?_ (by rfl)) <;> (repeat' (first | (exact eqA) | (refine And.intro ?_ ?_) | ((fail_if_success (with_reducible (show _ = _))); (show _ = _))))
theorem zbh (h : Hd) (g : Sg) (gg : g.good) : CT Tryz.prog 104 [] [.agg (hdE h ++ sgE g)] (.agg (hdE h ++ sgE g)) [] := by
 have c1 := zdL g gg
 clear gg
 unfold hdE sgE at *
 simp only [List.cons_append, List.nil_append] at *
 refine z01 z0f 1 rfl Tryz.func104 rfl rfl rfl ?_
 conv => arg 6; whnf
 repeat ((try conv => whnf); first | (with_reducible first | refine z0c (fun Qs hN hE hR => ?_) | refine z0a ?_ | refine z03 (fun Qb kN kE kX kR => ?_) | refine z06 ?_ | refine z07 ?_ | refine z0b ?_ | refine z08 ?_ | refine z09 ?_ | (show W _ _ _ (.cond _ _ _) _ _; refine z05 rfl ?_) | (refine hN _ ?_; try clear hN hE hR Qs; (try (conv => arg 6; dsimp only [ovl, List.set, List.map, ren0]))) | ((first | refine hE _ _ ?_ | refine hR _ ?_); try clear hN hE hR Qs) | ((first | refine kN _ ?_ | refine kE _ ?_ | refine kX _ _ rfl ?_ | refine kR _ ?_); try clear kN kE kX kR Qb)) | (refine ccA ([]) (c1) ?_) | (refine And.intro (by kernel_rfl) ?_) | (refine stpQ ?_))
 (refine z00 (by rfl) ?_ ?_ (by rfl)) <;> (repeat' (first | (exact eqA) | (refine And.intro ?_ ?_) | ((fail_if_success (with_reducible (show _ = _))); (show _ = _))))
theorem zab (l : List (Hd × Sg)) (h : l.length ≤ 1048576) (hv : ∀ x ∈ l, x.2.good) : CT Tryz.prog 67 [] [.sl 8 (slE l)] (.ref 1) [.row 8 (slE l)] := by
 have hl : (slE l).length = l.length := by simp [slE]
 refine z01 z0f 1 rfl Tryz.func67 rfl rfl rfl ?_
 conv => arg 6; whnf
 repeat ((try conv => whnf); first | (with_reducible first | refine z0c (fun Qs hN hE hR => ?_) | refine z0a ?_ | refine z03 (fun Qb kN kE kX kR => ?_) | refine z06 ?_ | refine z07 ?_ | refine z0b ?_ | refine z08 ?_ | refine z09 ?_ | (show W _ _ _ (.cond _ _ _) _ _; refine z05 rfl ?_) | (refine hN _ ?_; try clear hN hE hR Qs; (try (conv => arg 6; dsimp only [ovl, List.set, List.map, ren0]))) | ((first | refine hE _ _ ?_ | refine hR _ ?_); try clear hN hE hR Qs) | ((first | refine kN _ ?_ | refine kE _ ?_ | refine kX _ _ rfl ?_ | refine kR _ ?_); try clear kN kE kX kR Qb)) | (refine Exists.intro l.length (And.intro hl ?_)) | (refine stpQ ?_))
 refine z0i 0 ⟨[(3, .ref 1)], [(1, some (.row 8 (slE l)))], 2⟩ Nat (fun i => ⟨[(3, .ref 1), (6, .sl 8 (slE l)), (7, .int .i64 ((l.length : Nat) : Int)), (8, .int .i64 (i : Int))], [(1, some (.row 8 (slE (l.take i))))], 2⟩) (fun i => i ≤ l.length) (fun i => l.length - i) 0 (Nat.zero_le _) ?_ ?_ ?_
 ·(refine z02 (by rfl) ?_ ?_) <;> (repeat' (first | (exact eqA) | (refine And.intro ?_ ?_) | ((fail_if_success (with_reducible (show _ = _))); (show _ = _)))) <;> first | rfl | decide
 ·intro i hi
  by_cases hlt : i < l.length
  ·have f1 : (i : Int) < ((l.length : Nat) : Int) := by omega
   have g : (slE l)[i]? = some (hdE l[i].1 ++ sgE l[i].2) := by simp [slE, List.getElem?_map, List.getElem?_eq_getElem hlt]
   have v1 := hv _ (List.getElem_mem hlt)
   have hnx : slE (l.take (i + 1)) = slE (l.take i) ++ [hdE l[i].1 ++ sgE l[i].2] := by rw [List.take_succ_eq_append_getElem hlt, slE, List.map_append]; rfl
   have hlen : (slE (l.take i)).length ≤ 1048576 := by rw [slE, List.length_map, List.length_take]; omega
   generalize l[i] = v at *
   obtain ⟨h, s⟩ := v
   have c1 := zbh h s v1
   unfold hdE sgE at g hnx c1
   simp only [List.cons_append, List.nil_append] at g hnx c1
   repeat ((try conv => whnf); first | (with_reducible first | refine z0c (fun Qs hN hE hR => ?_) | refine z0a ?_ | refine z03 (fun Qb kN kE kX kR => ?_) | refine z06 ?_ | refine z07 ?_ | refine z0b ?_ | refine z08 ?_ | refine z09 ?_ | (show W _ _ _ (.cond _ _ _) _ _; refine z05 rfl ?_) | (refine hN _ ?_; try clear hN hE hR Qs; (try (conv => arg 6; dsimp only [ovl, List.set, List.map, ren0]))) | ((first | refine hE _ _ ?_ | refine hR _ ?_); try clear hN hE hR Qs) | ((first | refine kN _ ?_ | refine kE _ ?_ | refine kX _ _ rfl ?_ | refine kR _ ?_); try clear kN kE kX kR Qb)) | (refine z0k f1 ?_) | (refine i_at g ?_) | (refine ccA ([]) (c1) ?_) | (refine And.intro (by simp only [List.length_append, List.length_set, List.length_replicate, List.length_cons, List.length_nil, List.nil_append]; omega) ?_) | (refine And.intro (by kernel_rfl) ?_) | (refine stpQ ?_))
   refine ⟨i + 1, hlt, by omega, ?_⟩
   rw [hnx]
   (refine z02 (by rfl) ?_ ?_) <;> (repeat' (first | (exact eqA) | (refine And.intro ?_ ?_) | ((fail_if_success (with_reducible (show _ = _))); (show _ = _)))) <;> rfl
  ·have hie : i = l.length := by omega
   subst hie
   have f1 : ¬ ((l.length : Nat) : Int) < ((l.length : Nat) : Int) := by omega
   repeat ((try conv => whnf); first | (with_reducible first | refine z0c (fun Qs hN hE hR => ?_) | refine z0a ?_ | refine z03 (fun Qb kN kE kX kR => ?_) | refine z06 ?_ | refine z07 ?_ | refine z0b ?_ | refine z08 ?_ | refine z09 ?_ | (show W _ _ _ (.cond _ _ _) _ _; refine z05 rfl ?_) | (refine hN _ ?_; try clear hN hE hR Qs; (try (conv => arg 6; dsimp only [ovl, List.set, List.map, ren0]))) | ((first | refine hE _ _ ?_ | refine hR _ ?_); try clear hN hE hR Qs) | ((first | refine kN _ ?_ | refine kE _ ?_ | refine kX _ _ rfl ?_ | refine kR _ ?_); try clear kN kE kX kR Qb)) | (refine z0o f1 ?_) | (refine stpQ ?_))
   rw [List.take_length]
   (refine z02 (by rfl) ?_ ?_) <;> (repeat' (first | (exact eqA) | (refine And.intro ?_ ?_) | ((fail_if_success (with_reducible (show _ = _))); (show _ = _)))) <;> rfl
 ·repeat ((try conv => whnf); first | (with_reducible first | refine z0c (fun Qs hN hE hR => ?_) | refine z0a ?_ | refine z03 (fun Qb kN kE kX kR => ?_) | refine z06 ?_ | refine z07 ?_ | refine z0b ?_ | refine z08 ?_ | refine z09 ?_ | (show W _ _ _ (.cond _ _ _) _ _; refine z05 rfl ?_) | (refine hN _ ?_; try clear hN hE hR Qs; (try (conv => arg 6; dsimp only [ovl, List.set, List.map, ren0]))) | ((first | refine hE _ _ ?_ | refine hR _ ?_); try clear hN hE hR Qs) | ((first | refine kN _ ?_ | refine kE _ ?_ | refine kX _ _ rfl ?_ | refine kR _ ?_); try clear kN kE kX kR Qb)) | (refine stpQ ?_))
  (refine z00 (by rfl) ?_ ?_ (by rfl)) <;> (repeat' (first | (exact eqA) | (refine And.intro ?_ ?_) | ((fail_if_success (with_reducible (show _ = _))); (show _ = _))))
theorem z1l (ho K : Int) (up ask : Bool) (fs : List Fl) (po vo : List Bs) (se : List (Hd × Sg)) (tr : List Nat) (dn : List Bool) (ty : Int) (hf : (fs.length : Int) ≤ 1048576) (hp : (po.length : Int) ≤ 1048576) (hs : se.length ≤ 1048576) (hg : ∀ x ∈ se, x.2.good) (ht : tr.length ≤ 1048576) (hv : (vo.length : Int) ≤ 1048576) (hd : dn.length ≤ 1048576) :
 CT Tryz.prog 27 [] [.agg [.int .i64 ho, .int .i64 K, .bool up, .sl 3 (flE fs), .sl 1 (strE po), .sl 8 (slE se), .sl 1 (ntE tr), .int .i64 ty, .bool ask, .sl 1 (strE vo), .sl 1 (boE dn)]] (.agg [.int .i64 ho, .int .i64 K, .bool up, .sl 3 (flE fs), .sl 1 (strE po), .ref 1, .ref 2, .int .i64 ty, .bool ask, .ref 3, .ref 4]) [.row 8 (slE se), .row 1 (ntE tr), .row 1 (strE vo), .row 1 (boE dn)] := by
 have c1 := zbg fs (by omega)
 have c2 := z1W po (by omega)
 have c3 := zab se hs hg
 have c4 := zaa vo (by omega)
 have l1 : (ntE tr).length ≤ 1048576 := by simpa [ntE] using ht
 have l2 : (boE dn).length ≤ 1048576 := by rw [z1F]; exact hd
 clear hf hp hs hg ht hv hd
 generalize flE fs = F at *
 generalize strE po = P at *
 generalize slE se = S at *
 generalize ntE tr = R at *
 generalize strE vo = V at *
 generalize boE dn = D at *
 refine z01 z0f 1 rfl Tryz.func27 rfl rfl rfl ?_
 conv => arg 6; whnf
 repeat ((try conv => whnf); first | (with_reducible first | refine z0c (fun Qs hN hE hR => ?_) | refine z0a ?_ | refine z03 (fun Qb kN kE kX kR => ?_) | refine z06 ?_ | refine z07 ?_ | refine z0b ?_ | refine z08 ?_ | refine z09 ?_ | (show W _ _ _ (.cond _ _ _) _ _; refine z05 rfl ?_) | (refine hN _ ?_; try clear hN hE hR Qs; (try (conv => arg 6; dsimp only [ovl, List.set, List.map, ren0]))) | ((first | refine hE _ _ ?_ | refine hR _ ?_); try clear hN hE hR Qs) | ((first | refine kN _ ?_ | refine kE _ ?_ | refine kX _ _ rfl ?_ | refine kR _ ?_); try clear kN kE kX kR Qb)) | (refine ccA ([]) (c1) ?_) | (refine ccA ([]) (c2) ?_) | (refine ccA ([]) (c3) ?_) | (refine ccA ([]) (c4) ?_) | (refine And.intro (by simp only [List.length_append, List.length_set, List.length_replicate, List.length_cons, List.length_nil, List.nil_append]; omega) ?_) | (refine And.intro (by kernel_rfl) ?_) | (refine stpQ ?_))
 (refine z00 (by rfl) ?_ ?_ (by rfl)) <;> (repeat' (first | (exact eqA) | (refine And.intro ?_ ?_) | ((fail_if_success (with_reducible (show _ = _))); (show _ = _)))) <;> rfl
end
end Go.Proofs.YtkjjacndfieeoaaGreatDoor
namespace Go.Proofs.YtkjjacndfieeoaaGreatDoor
set_option maxRecDepth 100000
set_option maxHeartbeats 8000000
set_option linter.unusedVariables false
set_option linter.unusedSimpArgs false
set_option linter.unusedSectionVars false
open Go.RowKit Pl
abbrev allV : T := .val (.func (.func 33) #[] #[])
section
attribute [local irreducible] z0m z0n z0q AnsP LeP W CvE
theorem z3p (K : Nat) (hK : K ≤ 2) : CT Tryz.prog 32 [] [.int .i64 (K : Int)] (.int .i64 ((2 ^ K : Nat) : Int)) [] := by
 have c1 := z7J (n := (K : Int)) (by omega)
 obtain ⟨e1, e2⟩ := pow2 hK
 generalize 2 ^ K = pk at e1 ⊢
 refine z01 z0f 1 rfl Tryz.func32 rfl rfl rfl ?_
 conv => arg 6; whnf
 repeat ((try conv => whnf); first | (with_reducible first | refine z0c (fun Qs hN hE hR => ?_) | refine z0a ?_ | refine z03 (fun Qb kN kE kX kR => ?_) | refine z06 ?_ | refine z07 ?_ | refine z0b ?_ | refine z08 ?_ | refine z09 ?_ | (show W _ _ _ (.cond _ _ _) _ _; refine z05 rfl ?_) | (refine hN _ ?_; try clear hN hE hR Qs; (try (conv => arg 6; dsimp only [ovl, List.set, List.map, ren0]))) | ((first | refine hE _ _ ?_ | refine hR _ ?_); try clear hN hE hR Qs) | ((first | refine kN _ ?_ | refine kE _ ?_ | refine kX _ _ rfl ?_ | refine kR _ ?_); try clear kN kE kX kR Qb)) | (refine ccA ([]) (c1) ?_) | (refine And.intro (show (0 : Int) ≤ _ from by omega) ?_) | (refine And.intro (show _ ≤ (64 : Int) from by omega) ?_) | (refine Exists.intro _ (And.intro e1.symm ?_)) | (refine And.intro (by kernel_rfl) ?_) | (refine stpQ ?_))
 (refine z00 (by rfl) ?_ ?_ (by rfl)) <;> (repeat' (first | (exact eqA) | (refine And.intro ?_ ?_) | ((fail_if_success (with_reducible (show _ = _))); (show _ = _))))
theorem c_iAll (i : Int) : CT Tryz.prog 33 [] [.int .i64 i] (.bool true) [] := by
 refine z01 z0f 1 rfl Tryz.func33 rfl rfl rfl ?_
 conv => arg 6; whnf
 repeat ((try conv => whnf); first | (with_reducible first | refine z0c (fun Qs hN hE hR => ?_) | refine z0a ?_ | refine z03 (fun Qb kN kE kX kR => ?_) | refine z06 ?_ | refine z07 ?_ | refine z0b ?_ | refine z08 ?_ | refine z09 ?_ | (show W _ _ _ (.cond _ _ _) _ _; refine z05 rfl ?_) | (refine hN _ ?_; try clear hN hE hR Qs; (try (conv => arg 6; dsimp only [ovl, List.set, List.map, ren0]))) | ((first | refine hE _ _ ?_ | refine hR _ ?_); try clear hN hE hR Qs) | ((first | refine kN _ ?_ | refine kE _ ?_ | refine kX _ _ rfl ?_ | refine kR _ ?_); try clear kN kE kX kR Qb)) | (refine And.intro (by kernel_rfl) ?_) | (refine stpQ ?_))
 (refine z00 (by rfl) ?_ ?_ (by rfl)) <;> (repeat' (first | (exact eqA) | (refine And.intro ?_ ?_) | ((fail_if_success (with_reducible (show _ = _))); (show _ = _))))
theorem z3Y (kind ep ty : Int) (n : Nat) (hn : n ≤ 1000) : CT Tryz.prog 31 [] [.int .i64 kind, .int .i64 (n : Int), .int .i64 ep, .int .i64 ty, allV] (.sl 6 (ltsE kind ep ty n)) [] := by
 refine z01 z0r 1 rfl Tryz.func31 rfl rfl rfl ?_
 conv => arg 6; whnf
 repeat ((try conv => whnf); first | (with_reducible first | refine z0c (fun Qs hN hE hR => ?_) | refine z0a ?_ | refine z03 (fun Qb kN kE kX kR => ?_) | refine z06 ?_ | refine z07 ?_ | refine z0b ?_ | refine z08 ?_ | refine z09 ?_ | (show W _ _ _ (.cond _ _ _) _ _; refine z05 rfl ?_) | (refine hN _ ?_; try clear hN hE hR Qs; (try (conv => arg 6; dsimp only [ovl, List.set, List.map, ren0]))) | ((first | refine hE _ _ ?_ | refine hR _ ?_); try clear hN hE hR Qs) | ((first | refine kN _ ?_ | refine kE _ ?_ | refine kX _ _ rfl ?_ | refine kR _ ?_); try clear kN kE kX kR Qb)) | (refine And.intro (by kernel_rfl) ?_) | (refine stpQ ?_))
 refine z0i 0 ⟨[(11, .ref 1)], [(1, some (.row 6 (ltsE kind ep ty n)))], 2⟩ Nat (fun i => ⟨[(0, .int .i64 kind), (2, .int .i64 ep), (3, .int .i64 ty), (4, allV), (11, .ref 1), (13, .int .i64 (n : Int)), (14, .int .i64 (i : Int))], [(1, some (.row 6 (ltsE kind ep ty i)))], 2⟩) (fun i => i ≤ n) (fun i => n - i) 0 (Nat.zero_le _) ?_ ?_ ?_
 ·(refine z02 (by rfl) ?_ ?_) <;> (repeat' (first | (exact eqA) | (refine And.intro ?_ ?_) | ((fail_if_success (with_reducible (show _ = _))); (show _ = _)))) <;> first | rfl | decide
 ·intro i hi
  by_cases hlt : i < n
  ·have f1 : ((i : Nat) : Int) < ((n : Nat) : Int) := by omega
   have c1 := c_iAll (i : Int)
   have hx := zcD kind ep ty i
   have hl := z6K kind ep ty i
   generalize ltsE kind ep ty i = LI at *
   repeat ((try conv => whnf); first | (with_reducible first | refine z0c (fun Qs hN hE hR => ?_) | refine z0a ?_ | refine z03 (fun Qb kN kE kX kR => ?_) | refine z06 ?_ | refine z07 ?_ | refine z0b ?_ | refine z08 ?_ | refine z09 ?_ | (show W _ _ _ (.cond _ _ _) _ _; refine z05 rfl ?_) | (refine hN _ ?_; try clear hN hE hR Qs; (try (conv => arg 6; dsimp only [ovl, List.set, List.map, ren0]))) | ((first | refine hE _ _ ?_ | refine hR _ ?_); try clear hN hE hR Qs) | ((first | refine kN _ ?_ | refine kE _ ?_ | refine kX _ _ rfl ?_ | refine kR _ ?_); try clear kN kE kX kR Qb)) | (refine z0k f1 ?_) | (refine ccA ([]) (c1) ?_) | (refine And.intro (by simp only [List.length_append, List.length_set, List.length_replicate, List.length_cons, List.length_nil, List.nil_append]; omega) ?_) | (refine And.intro (by kernel_rfl) ?_) | (refine stpQ ?_))
   refine ⟨i + 1, (by (try dsimp only); omega), (by (try dsimp only); omega), ?_⟩
   (try dsimp only)
   rw [hx]
   (refine z02 (by rfl) ?_ ?_) <;> (repeat' (first | (exact eqA) | (refine And.intro ?_ ?_) | ((fail_if_success (with_reducible (show _ = _))); (show _ = _)))) <;> rfl
  ·obtain rfl : i = n := by omega
   have f1 : ¬ ((i : Nat) : Int) < ((i : Nat) : Int) := by omega
   repeat ((try conv => whnf); first | (with_reducible first | refine z0c (fun Qs hN hE hR => ?_) | refine z0a ?_ | refine z03 (fun Qb kN kE kX kR => ?_) | refine z06 ?_ | refine z07 ?_ | refine z0b ?_ | refine z08 ?_ | refine z09 ?_ | (show W _ _ _ (.cond _ _ _) _ _; refine z05 rfl ?_) | (refine hN _ ?_; try clear hN hE hR Qs; (try (conv => arg 6; dsimp only [ovl, List.set, List.map, ren0]))) | ((first | refine hE _ _ ?_ | refine hR _ ?_); try clear hN hE hR Qs) | ((first | refine kN _ ?_ | refine kE _ ?_ | refine kX _ _ rfl ?_ | refine kR _ ?_); try clear kN kE kX kR Qb)) | (refine z0o f1 ?_) | (refine And.intro (by kernel_rfl) ?_) | (refine stpQ ?_))
   (refine z02 (by rfl) ?_ ?_) <;> (repeat' (first | (exact eqA) | (refine And.intro ?_ ?_) | ((fail_if_success (with_reducible (show _ = _))); (show _ = _)))) <;> rfl
 ·repeat ((try conv => whnf); first | (with_reducible first | refine z0c (fun Qs hN hE hR => ?_) | refine z0a ?_ | refine z03 (fun Qb kN kE kX kR => ?_) | refine z06 ?_ | refine z07 ?_ | refine z0b ?_ | refine z08 ?_ | refine z09 ?_ | (show W _ _ _ (.cond _ _ _) _ _; refine z05 rfl ?_) | (refine hN _ ?_; try clear hN hE hR Qs; (try (conv => arg 6; dsimp only [ovl, List.set, List.map, ren0]))) | ((first | refine hE _ _ ?_ | refine hR _ ?_); try clear hN hE hR Qs) | ((first | refine kN _ ?_ | refine kE _ ?_ | refine kX _ _ rfl ?_ | refine kR _ ?_); try clear kN kE kX kR Qb)) | (refine And.intro (by kernel_rfl) ?_) | (refine stpQ ?_))
  (refine z00 (by rfl) ?_ ?_ (by rfl)) <;> (repeat' (first | (exact eqA) | (refine And.intro ?_ ?_) | ((fail_if_success (with_reducible (show _ = _))); (show _ = _)))) <;> rfl
theorem zg2 (ho : Int) (K : Nat) (hK : K ≤ 2) (ty : Int) (up ask : Bool) (F P R1 R2 R3 R4 : List (List T)) : CT Tryz.prog 30 [.box [.int .i64 ho, .int .i64 (K : Int), .bool up, .sl 3 F, .sl 1 P, .ref 2, .ref 3, .int .i64 ty, .bool ask, .ref 4, .ref 5], .row 8 R1, .row 1 R2, .row 1 R3, .row 1 R4] [.ptr 1 0 0] (.tup []) [.box [.int .i64 ho, .int .i64 (K : Int), .bool up, .sl 3 F, .sl 1 P, .ref 2, .ref 3, .int .i64 ty, .bool ask, .ref 6, .ref 5], .row 8 R1, .row 1 R2, .row 1 R3, .row 1 R4, .row 1 (emV (2 ^ K))] := by
 have c1 := z3p K hK
 obtain ⟨e1, e2⟩ := pow2 hK
 unfold emV
 generalize 2 ^ K = pk at c1 e2 ⊢
 refine z01 z0r 6 rfl Tryz.func30 rfl rfl rfl ?_
 conv => arg 6; whnf
 repeat ((try conv => whnf); first | (with_reducible first | refine z0c (fun Qs hN hE hR => ?_) | refine z0a ?_ | refine z03 (fun Qb kN kE kX kR => ?_) | refine z06 ?_ | refine z07 ?_ | refine z0b ?_ | refine z08 ?_ | refine z09 ?_ | (show W _ _ _ (.cond _ _ _) _ _; refine z05 rfl ?_) | (refine hN _ ?_; try clear hN hE hR Qs; (try (conv => arg 6; dsimp only [ovl, List.set, List.map, ren0]))) | ((first | refine hE _ _ ?_ | refine hR _ ?_); try clear hN hE hR Qs) | ((first | refine kN _ ?_ | refine kE _ ?_ | refine kX _ _ rfl ?_ | refine kR _ ?_); try clear kN kE kX kR Qb)) | (refine ccA ([]) (c1) ?_) | (refine Exists.intro pk (And.intro rfl (And.intro rfl (And.intro (by omega) ?_)))) | (refine And.intro (by kernel_rfl) ?_) | (refine stpQ ?_))
 (refine z00 (by rfl) ?_ ?_ (by rfl)) <;> (repeat' (first | (exact eqA) | (refine And.intro ?_ ?_) | ((fail_if_success (with_reducible (show _ = _))); (show _ = _)))) <;> first | rfl | (simp; done)
theorem z7V (ho : Int) (K : Nat) (hK : K ≤ 2) (ty : Int) (up ask : Bool) (F P R1 R2 R3 R4 : List (List T)) : CT Tryz.prog 30 [.box [.int .i64 ho, .int .i64 (K : Int), .bool up, .ref 6, .sl 1 P, .ref 2, .ref 3, .int .i64 ty, .bool ask, .ref 4, .ref 5], .row 8 R1, .row 1 R2, .row 1 R3, .row 1 R4, .row 3 F] [.ptr 1 0 0] (.tup []) [.box [.int .i64 ho, .int .i64 (K : Int), .bool up, .ref 6, .sl 1 P, .ref 2, .ref 3, .int .i64 ty, .bool ask, .ref 7, .ref 5], .row 8 R1, .row 1 R2, .row 1 R3, .row 1 R4, .row 3 F, .row 1 (emV (2 ^ K))] := by
 have c1 := z3p K hK
 obtain ⟨e1, e2⟩ := pow2 hK
 unfold emV
 generalize 2 ^ K = pk at c1 e2 ⊢
 refine z01 z0r 7 rfl Tryz.func30 rfl rfl rfl ?_
 conv => arg 6; whnf
 repeat ((try conv => whnf); first | (with_reducible first | refine z0c (fun Qs hN hE hR => ?_) | refine z0a ?_ | refine z03 (fun Qb kN kE kX kR => ?_) | refine z06 ?_ | refine z07 ?_ | refine z0b ?_ | refine z08 ?_ | refine z09 ?_ | (show W _ _ _ (.cond _ _ _) _ _; refine z05 rfl ?_) | (refine hN _ ?_; try clear hN hE hR Qs; (try (conv => arg 6; dsimp only [ovl, List.set, List.map, ren0]))) | ((first | refine hE _ _ ?_ | refine hR _ ?_); try clear hN hE hR Qs) | ((first | refine kN _ ?_ | refine kE _ ?_ | refine kX _ _ rfl ?_ | refine kR _ ?_); try clear kN kE kX kR Qb)) | (refine ccA ([]) (c1) ?_) | (refine Exists.intro pk (And.intro rfl (And.intro rfl (And.intro (by omega) ?_)))) | (refine And.intro (by kernel_rfl) ?_) | (refine stpQ ?_))
 (refine z00 (by rfl) ?_ ?_ (by rfl)) <;> (repeat' (first | (exact eqA) | (refine And.intro ?_ ?_) | ((fail_if_success (with_reducible (show _ = _))); (show _ = _)))) <;> first | rfl | (simp; done)
theorem z59 (ho : Int) (K : Nat) (hK : K ≤ 2) (po : List Bs) (c : Co) (hz : (logB c.ts).length ≤ 18000) (hp : (po.length : Int) ≤ 100000) (hg : ∀ x ∈ c.s.se, x.2.good) (hl : c.s.se.length ≤ 10 ∧ c.s.tr.length ≤ 10 ∧ c.vo.length ≤ 10 ∧ c.dn.length ≤ 10) (ha : c.ask = false) (hs : c.s.se.length < 4) (hy : c.s.ty ≤ 999) (hsz : (logB (c.ts ++ [begB (c.s.ty + 1)])).length ≤ 18000) : CT Tryz.prog 10 [] [.agg (coE ho (K : Int) po c)] (.tup [.agg (coE ho (K : Int) po (begC K c)), .sl 6 (ltsE 1 ((c.s.se.length + 1 : Nat) : Int) ((c.s.ty + 1 : Nat) : Int) (2 ^ K))]) [] := by
 have hB : begC K c = ⟨c.ts ++ [begB (c.s.ty + 1)], { c.s with ty := c.s.ty + 1 }, true, emN K, c.dn⟩ := by rw [begC, if_pos ⟨ha, hs, hy⟩]
 rw [hB]
 have c1 := z1l ho (K : Int) true c.ask (dkOf coordN c.ts) po c.vo c.s.se c.s.tr c.dn (c.s.ty : Int) (by have := (z1k (n := coordN) (by decide) hz).1; omega) (by omega) (by omega) hg (by omega) (by omega) (by omega)
 have hse := z0B c.s.se
 have c2 := c_in (c.s.ty : Int) 0 999
 rw [show inB (c.s.ty : Int) 0 999 = true by simp only [inB, Bool.and_eq_true, decide_eq_true_eq]; omega] at c2
 have hr : recB 1 [c.s.ty + 1] = begB (c.s.ty + 1) := by simp [recB, begB]
 have hbl := z1D (n := c.s.ty + 1) (by omega)
 have c3 := zhj coordN 1 [c.s.ty + 1] c.ts (by simp) (by simp; omega) (by decide) (by decide) (by rw [hr]; omega) (by rw [hr]; exact hsz)
 rw [hr] at c3
 have hnt : ntE [c.s.ty + 1] = [[.int .i64 ((c.s.ty + 1 : Nat) : Int)]] := rfl
 rw [hnt] at c3
 have o2 := zdG (z4S (k := 3) (dkOf coordN (c.ts ++ [begB (c.s.ty + 1)])))
 have c4 := z7V ho K hK ((c.s.ty + 1 : Nat) : Int) true true (flE (dkOf coordN (c.ts ++ [begB (c.s.ty + 1)]))) (strE po) (slE c.s.se) (ntE c.s.tr) (strE c.vo) (boE c.dn)
 have c5 := z3p K hK
 obtain ⟨e1, e2⟩ := pow2 hK
 have c6 := z3Y 1 ((c.s.se.length + 1 : Nat) : Int) ((c.s.ty + 1 : Nat) : Int) (2 ^ K) (by omega)
 have eN := z8R K
 clear hB hr hnt hbl hz hp hg hsz
 unfold coE
 (try dsimp only)
 rw [eN]
 rw [ha] at *
 unfold emV at *
 generalize flE (dkOf coordN (c.ts ++ [begB (c.s.ty + 1)])) = d2 at *
 generalize flE (dkOf coordN c.ts) = d0 at *
 generalize slE c.s.se = SE at *
 generalize ntE c.s.tr = TR at *
 generalize strE c.vo = VO at *
 generalize boE c.dn = DN at *
 generalize strE po = PO at *
 generalize hsl : c.s.se.length = sl at *
 generalize hty : c.s.ty = y at *
 generalize ltsE 1 ((sl + 1 : Nat) : Int) ((y + 1 : Nat) : Int) (2 ^ K) = LT at *
 generalize 2 ^ K = pk at *
 have f1 : ¬ ((sl : Nat) : Int) ≥ 4 := by omega
 clear eN hsl hty ha hl hs
 refine z01 z0r 1 rfl Tryz.func10 rfl rfl rfl ?_
 conv => arg 6; whnf
 repeat ((try conv => whnf); first | (with_reducible first | refine z0c (fun Qs hN hE hR => ?_) | refine z0a ?_ | refine z03 (fun Qb kN kE kX kR => ?_) | refine z06 ?_ | refine z07 ?_ | refine z0b ?_ | refine z08 ?_ | refine z09 ?_ | (show W _ _ _ (.cond _ _ _) _ _; refine z05 rfl ?_) | (refine hN _ ?_; try clear hN hE hR Qs; (try (conv => arg 6; dsimp only [ovl, List.set, List.map, ren0]))) | ((first | refine hE _ _ ?_ | refine hR _ ?_); try clear hN hE hR Qs) | ((first | refine kN _ ?_ | refine kE _ ?_ | refine kX _ _ rfl ?_ | refine kR _ ?_); try clear kN kE kX kR Qb)) | (refine ccA ([]) (c1) ?_) | (refine Exists.intro sl (And.intro hse ?_)) | (refine z0o f1 ?_) | (refine ccA ([]) (c2) ?_) | (refine ccA [] (c3) ?_ (h5 := .inr (And.intro (by simp [own2, own1, own0]) o2))) | (refine ccB ([81, 65, 66, 67, 68, 513]) (c4) ?_) | (refine ccA ([]) (c5) ?_) | (refine ccA ([]) (c6) ?_) | (refine And.intro (by kernel_rfl) ?_) | (refine stpQ ?_))
 (refine z00 (by rfl) ?_ ?_ (by rfl)) <;> (repeat' (first | (exact eqA) | (refine And.intro ?_ ?_) | ((fail_if_success (with_reducible (show _ = _))); (show _ = _)))) <;> first | rfl | (simp; done)
end
end Go.Proofs.YtkjjacndfieeoaaGreatDoor
namespace Go.Proofs.YtkjjacndfieeoaaGreatDoor
set_option maxRecDepth 100000
set_option maxHeartbeats 8000000
set_option linter.unusedVariables false
set_option linter.unusedSimpArgs false
set_option linter.unusedSectionVars false
open Go.RowKit Pl
section
attribute [local irreducible] z0m z0n z0q AnsP LeP W CvE
theorem z6L (ho : Int) (K : Nat) (po : List Bs) (c : Co) (hz : (logB c.ts).length ≤ 18000) (hp : (po.length : Int) ≤ 100000) (hg : ∀ x ∈ c.s.se, x.2.good) (hl : c.s.se.length ≤ 10 ∧ c.s.tr.length ≤ 10 ∧ c.vo.length ≤ 10 ∧ c.dn.length ≤ 10) (ha : c.ask = false) (hs : 4 ≤ c.s.se.length) : CT Tryz.prog 10 [] [.agg (coE ho (K : Int) po c)] (.tup [.agg (coE ho (K : Int) po c), .sl 6 []]) [] := by
 have c1 := z1l ho (K : Int) true c.ask (dkOf coordN c.ts) po c.vo c.s.se c.s.tr c.dn (c.s.ty : Int) (by have := (z1k (n := coordN) (by decide) hz).1; omega) (by omega) (by omega) hg (by omega) (by omega) (by omega)
 have hse := z0B c.s.se
 clear hz hp hg
 unfold coE
 rw [ha] at *
 generalize flE (dkOf coordN c.ts) = d0 at *
 generalize slE c.s.se = SE at *
 generalize ntE c.s.tr = TR at *
 generalize strE c.vo = VO at *
 generalize boE c.dn = DN at *
 generalize strE po = PO at *
 generalize hsl : c.s.se.length = sl at *
 generalize hty : c.s.ty = y at *
 have f1 : ((sl : Nat) : Int) ≥ 4 := by omega
 clear hsl hty ha hl
 refine z01 z0r 1 rfl Tryz.func10 rfl rfl rfl ?_
 conv => arg 6; whnf
 repeat ((try conv => whnf); first | (with_reducible first | refine z0c (fun Qs hN hE hR => ?_) | refine z0a ?_ | refine z03 (fun Qb kN kE kX kR => ?_) | refine z06 ?_ | refine z07 ?_ | refine z0b ?_ | refine z08 ?_ | refine z09 ?_ | (show W _ _ _ (.cond _ _ _) _ _; refine z05 rfl ?_) | (refine hN _ ?_; try clear hN hE hR Qs; (try (conv => arg 6; dsimp only [ovl, List.set, List.map, ren0]))) | ((first | refine hE _ _ ?_ | refine hR _ ?_); try clear hN hE hR Qs) | ((first | refine kN _ ?_ | refine kE _ ?_ | refine kX _ _ rfl ?_ | refine kR _ ?_); try clear kN kE kX kR Qb)) | (refine ccA ([]) (c1) ?_) | (refine Exists.intro sl (And.intro hse ?_)) | (refine z0k f1 ?_) | (refine And.intro (by kernel_rfl) ?_) | (refine stpQ ?_))
 (refine z00 (by rfl) ?_ ?_ (by rfl)) <;> (repeat' (first | (exact eqA) | (refine And.intro ?_ ?_) | ((fail_if_success (with_reducible (show _ = _))); (show _ = _)))) <;> first | rfl | (simp; done)
theorem zdM (ho : Int) (K : Nat) (po : List Bs) (c : Co) (hz : (logB c.ts).length ≤ 18000) (hp : (po.length : Int) ≤ 100000) (hg : ∀ x ∈ c.s.se, x.2.good) (hl : c.s.se.length ≤ 10 ∧ c.s.tr.length ≤ 10 ∧ c.vo.length ≤ 10 ∧ c.dn.length ≤ 10) (ha : c.ask = false) : CT Tryz.prog 16 [] [.agg (coE ho (K : Int) po c)] (.tup [.agg (coE ho (K : Int) po c), .sl 6 []]) [] := by
 have c1 := z1l ho (K : Int) true c.ask (dkOf coordN c.ts) po c.vo c.s.se c.s.tr c.dn (c.s.ty : Int) (by have := (z1k (n := coordN) (by decide) hz).1; omega) (by omega) (by omega) hg (by omega) (by omega) (by omega)
 have hse := z0B c.s.se
 clear hz hp hg
 unfold coE
 rw [ha] at *
 generalize flE (dkOf coordN c.ts) = d0 at *
 generalize slE c.s.se = SE at *
 generalize ntE c.s.tr = TR at *
 generalize strE c.vo = VO at *
 generalize boE c.dn = DN at *
 generalize strE po = PO at *
 generalize hsl : c.s.se.length = sl at *
 generalize hty : c.s.ty = y at *
 clear hsl hty ha hl
 refine z01 z0r 1 rfl Tryz.func16 rfl rfl rfl ?_
 conv => arg 6; whnf
 repeat ((try conv => whnf); first | (with_reducible first | refine z0c (fun Qs hN hE hR => ?_) | refine z0a ?_ | refine z03 (fun Qb kN kE kX kR => ?_) | refine z06 ?_ | refine z07 ?_ | refine z0b ?_ | refine z08 ?_ | refine z09 ?_ | (show W _ _ _ (.cond _ _ _) _ _; refine z05 rfl ?_) | (refine hN _ ?_; try clear hN hE hR Qs; (try (conv => arg 6; dsimp only [ovl, List.set, List.map, ren0]))) | ((first | refine hE _ _ ?_ | refine hR _ ?_); try clear hN hE hR Qs) | ((first | refine kN _ ?_ | refine kE _ ?_ | refine kX _ _ rfl ?_ | refine kR _ ?_); try clear kN kE kX kR Qb)) | (refine ccA ([]) (c1) ?_) | (refine And.intro (by kernel_rfl) ?_) | (refine stpQ ?_))
 (refine z00 (by rfl) ?_ ?_ (by rfl)) <;> (repeat' (first | (exact eqA) | (refine And.intro ?_ ?_) | ((fail_if_success (with_reducible (show _ = _))); (show _ = _)))) <;> first | rfl | (simp; done)
theorem zbi (ho : Int) (K : Nat) (hK : K ≤ 2) (po : List Bs) (c : Co) (hz : (logB c.ts).length ≤ 18000) (hp : (po.length : Int) ≤ 100000) (hg : ∀ x ∈ c.s.se, x.2.good) (hl : c.s.se.length ≤ 10 ∧ c.s.tr.length ≤ 10 ∧ c.vo.length ≤ 10 ∧ c.dn.length ≤ 10) (ha : c.ask = true) : CT Tryz.prog 16 [] [.agg (coE ho (K : Int) po c)] (.tup [.agg (coE ho (K : Int) po (givC K c)), .sl 6 (ltsE 3 ((c.s.se.length + 1 : Nat) : Int) (c.s.ty : Int) (2 ^ K))]) [] := by
 have hB : givC K c = { c with ask := false, vo := emN K } := by rw [givC, if_pos ha]
 rw [hB]
 have c1 := z1l ho (K : Int) true c.ask (dkOf coordN c.ts) po c.vo c.s.se c.s.tr c.dn (c.s.ty : Int) (by have := (z1k (n := coordN) (by decide) hz).1; omega) (by omega) (by omega) hg (by omega) (by omega) (by omega)
 have hse := z0B c.s.se
 have c4 := zg2 ho K hK (c.s.ty : Int) true false (flE (dkOf coordN c.ts)) (strE po) (slE c.s.se) (ntE c.s.tr) (strE c.vo) (boE c.dn)
 have c5 := z3p K hK
 obtain ⟨e1, e2⟩ := pow2 hK
 have c6 := z3Y 3 ((c.s.se.length + 1 : Nat) : Int) (c.s.ty : Int) (2 ^ K) (by omega)
 have eN := z8R K
 clear hB hz hp hg
 unfold coE
 (try dsimp only)
 rw [eN]
 rw [ha] at *
 unfold emV at *
 generalize flE (dkOf coordN c.ts) = d0 at *
 generalize slE c.s.se = SE at *
 generalize ntE c.s.tr = TR at *
 generalize strE c.vo = VO at *
 generalize boE c.dn = DN at *
 generalize strE po = PO at *
 generalize hsl : c.s.se.length = sl at *
 generalize hty : c.s.ty = y at *
 generalize ltsE 3 ((sl + 1 : Nat) : Int) (y : Int) (2 ^ K) = LT at *
 generalize 2 ^ K = pk at *
 have hsl4 : sl ≤ 10 := by omega
 clear eN hsl hty ha hl
 refine z01 z0r 1 rfl Tryz.func16 rfl rfl rfl ?_
 conv => arg 6; whnf
 repeat ((try conv => whnf); first | (with_reducible first | refine z0c (fun Qs hN hE hR => ?_) | refine z0a ?_ | refine z03 (fun Qb kN kE kX kR => ?_) | refine z06 ?_ | refine z07 ?_ | refine z0b ?_ | refine z08 ?_ | refine z09 ?_ | (show W _ _ _ (.cond _ _ _) _ _; refine z05 rfl ?_) | (refine hN _ ?_; try clear hN hE hR Qs; (try (conv => arg 6; dsimp only [ovl, List.set, List.map, ren0]))) | ((first | refine hE _ _ ?_ | refine hR _ ?_); try clear hN hE hR Qs) | ((first | refine kN _ ?_ | refine kE _ ?_ | refine kX _ _ rfl ?_ | refine kR _ ?_); try clear kN kE kX kR Qb)) | (refine ccA ([]) (c1) ?_) | (refine ccB ([81, 65, 66, 67, 68]) (c4) ?_) | (refine Exists.intro sl (And.intro hse ?_)) | (refine ccA ([]) (c5) ?_) | (refine ccA ([]) (c6) ?_) | (refine And.intro (by kernel_rfl) ?_) | (refine stpQ ?_))
 (refine z00 (by rfl) ?_ ?_ (by rfl)) <;> (repeat' (first | (exact eqA) | (refine And.intro ?_ ?_) | ((fail_if_success (with_reducible (show _ = _))); (show _ = _)))) <;> first | rfl | (simp; done)
end
end Go.Proofs.YtkjjacndfieeoaaGreatDoor
