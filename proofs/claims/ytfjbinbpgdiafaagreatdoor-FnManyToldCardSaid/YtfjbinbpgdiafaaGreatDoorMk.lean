/- Functions by content: the program proves many names: one round at one height. Functions by content: the program proves many names: a round by what the inner loop keeps. -/
import Derived.Test.YtfjbinbpgdiafaaGreatDoorMrr2
import Derived.Test.YtfjbinbpgdiafaaGreatDoorPmx
import Derived.Test.YtfjbinbpgdiafaaGreatDoorTt
import Derived.Test.YtfjbinbpgdiafaaGreatDoorMtz
namespace Go.Proofs.YtfjbinbpgdiafaaGreatDoor
set_option maxRecDepth 100000
set_option maxHeartbeats 8000000
set_option linter.unusedVariables false
set_option linter.unusedSimpArgs false
set_option linter.unusedSectionVars false
open Go.RowKit Pl
def ttLG : List (Nat × Ty) := ttLM ++ ex3
def ttG : TT := lk ttLG
theorem ttG_ok : TtOk Tryz.prog ttG := fun t y h => by
 have hm : (t, y) ∈ ttLG := z18 h
 rcases List.mem_append.1 hm with h | h
 ·rcases List.mem_append.1 h with h | h
  ·rcases List.mem_append.1 h with h | h
   ·exact z6m (t, y) h
   ·exact z94 (t, y) h
  ·exact zd0 (t, y) h
 ·exact zcM (t, y) h
def z3s : Code → List Code
 | .seq x y => z3s x ++ z3s y
 | .block _ c => z3s c
 | .cond _ x y => z3s x ++ z3s y
 | .loop c => c :: z3s c
 | _ => []
def loopAt (k : Nat) (f : Func) : Code := match f.body with
 | some c => (z3s c).getD k .skip
 | none => .skip
noncomputable def z4n : Code := loopAt 2 Tryz.f22
section
attribute [local irreducible] z0t z0u z0A AnsP LeP W CvE
theorem rdP_ol (Q : Pst) (LE IE NM BK SE UP LL : List (List T)) (w lv n k p xp un r q u : Nat) (nd : Bs) (hLl : LL.length = n) (hun : UP.length = un) (hS : SE.length ≤ 1000) (hU : un ≤ 1000) (hn : n ≤ 1000) (hlv : lv ≤ 8) (hp : p ≤ 1000)
 (f5 : (k : Int) < ((n : Nat) : Int)) (gp : LL[k]? = some [.int .i64 ((p : Nat) : Int)]) (ex : bits .xor .i64 (p : Int) 1 = ((xp : Nat) : Int)) (cN : CT Tryz.prog 75 [] [.agg [.sl 2 LE, .sl 1 IE, .int .i64 (w : Int)], .int .i64 (8 - (lv : Int)), .int .i64 ((xp : Nat) : Int)] (.str nd) [])
 (fi0 : ¬ ((k : Nat) : Int) > 0) (fkn : ¬ ((k + 1 : Nat) : Int) < ((n : Nat) : Int)) (fu0 : ((un : Nat) : Int) = 0)
 (hQ0 : ∀ S1, LeP 1 S1 ⟨[(0, .sl 2 LE), (6, .ptr 1 0 0), (8, .ptr 2 0 0), (9, .ptr 3 0 0), (10, .sl 1 LL), (13, .int .i64 (8 - (lv : Int))), (14, .ref 7), (59, .sl 1 LL), (60, .int .i64 ((n : Nat) : Int)), (61, .int .i64 ((k + 1 : Nat) : Int))], [(1, some (.box [.val nilV, .val nilV, .val nilV])), (2, some (.box [.sl 2 LE, .sl 1 IE, .int .i64 (w : Int)])), (3, some (.box [.ref 4, .ref 5, .ref 6])), (4, some (.row 1 NM)), (5, some (.deep 1 BK [])), (6, some (.row 1 (SE ++ [[.str nd]]))), (7, some (.row 1 (UP ++ [[.int .i64 ((p / 2 : Nat) : Int)]])))], 8⟩ → Q .normal S1) :
 W Tryz.prog ttG 1 z4n Q ⟨[(0, .sl 2 LE), (6, .ptr 1 0 0), (8, .ptr 2 0 0), (9, .ptr 3 0 0), (10, .sl 1 LL), (13, .int .i64 (8 - (lv : Int))), (14, .ref 7), (59, .sl 1 LL), (60, .int .i64 ((n : Nat) : Int)), (61, .int .i64 (k : Int))], [(1, some (.box [.val nilV, .val nilV, .val nilV])), (2, some (.box [.sl 2 LE, .sl 1 IE, .int .i64 (w : Int)])), (3, some (.box [.ref 4, .ref 5, .ref 6])), (4, some (.row 1 NM)), (5, some (.deep 1 BK [])), (6, some (.row 1 SE)), (7, some (.row 1 UP))], 8⟩ := by
 conv => arg 4; whnf
 repeat ((try conv => whnf); first | (with_reducible first | refine z0a (fun Qs hN hE hR => ?_) | refine z08 ?_ | refine z00 (fun Qb kN kE kX kR => ?_) | refine z04 ?_ | refine z05 ?_ | refine z09 ?_ | refine z06 ?_ | refine z07 ?_ | (show W _ _ _ (.cond _ _ _) _ _; refine z03 rfl ?_) | (refine hN _ ?_; try clear hN hE hR Qs; (try (conv => arg 6; dsimp only [ovl, List.set, List.map, ren0]))) | ((first | refine hE _ _ ?_ | refine hR _ ?_); try clear hN hE hR Qs) | ((first | refine kN _ ?_ | refine kE _ ?_ | refine kX _ _ rfl ?_ | refine kR _ ?_); try clear kN kE kX kR Qb)) | (refine z0c f5 ?_) | (refine i_at gp ?_) | (refine z0d fi0 ?_) | (refine z0d fkn ?_) | (refine z0c fu0 ?_) | (refine Exists.intro _ (And.intro ex.symm ?_)) | (refine Exists.intro n (And.intro hLl ?_)) | (refine Exists.intro un (And.intro hun ?_)) | (refine z4d (n := nat_lit 1) (by omega) ?_) | (refine z1M (n := nat_lit 2) (by omega) ?_) | (refine ccA ([]) (cN) ?_) | (refine And.intro (by simp only [List.length_append, List.length_set, List.length_replicate, List.length_cons, List.length_nil]; omega) ?_) | (refine And.intro (by kernel_rfl) ?_) | (refine stpQ ?_))
 refine hQ0 _ ?_
 (refine z01 (by rfl) ?_ ?_) <;> (repeat' (first | (exact eqA) | (refine And.intro ?_ ?_) | ((fail_if_success (with_reducible (show _ = _))); (show _ = _)))) <;> rfl
theorem rdP_on (Q : Pst) (LE IE NM BK SE UP LL : List (List T)) (w lv n k p xp un r q u : Nat) (nd : Bs) (hLl : LL.length = n) (hun : UP.length = un) (hS : SE.length ≤ 1000) (hU : un ≤ 1000) (hn : n ≤ 1000) (hlv : lv ≤ 8) (hp : p ≤ 1000)
 (f5 : (k : Int) < ((n : Nat) : Int)) (gp : LL[k]? = some [.int .i64 ((p : Nat) : Int)]) (ex : bits .xor .i64 (p : Int) 1 = ((xp : Nat) : Int)) (cN : CT Tryz.prog 75 [] [.agg [.sl 2 LE, .sl 1 IE, .int .i64 (w : Int)], .int .i64 (8 - (lv : Int)), .int .i64 ((xp : Nat) : Int)] (.str nd) [])
 (fi0 : ¬ ((k : Nat) : Int) > 0) (fk1 : ((k + 1 : Nat) : Int) < ((n : Nat) : Int)) (gq : LL[k + 1]? = some [.int .i64 ((q : Nat) : Int)]) (fen : ¬ ((q : Nat) : Int) = ((xp : Nat) : Int)) (fu0 : ((un : Nat) : Int) = 0)
 (hQ0 : ∀ S1, LeP 1 S1 ⟨[(0, .sl 2 LE), (6, .ptr 1 0 0), (8, .ptr 2 0 0), (9, .ptr 3 0 0), (10, .sl 1 LL), (13, .int .i64 (8 - (lv : Int))), (14, .ref 7), (59, .sl 1 LL), (60, .int .i64 ((n : Nat) : Int)), (61, .int .i64 ((k + 1 : Nat) : Int))], [(1, some (.box [.val nilV, .val nilV, .val nilV])), (2, some (.box [.sl 2 LE, .sl 1 IE, .int .i64 (w : Int)])), (3, some (.box [.ref 4, .ref 5, .ref 6])), (4, some (.row 1 NM)), (5, some (.deep 1 BK [])), (6, some (.row 1 (SE ++ [[.str nd]]))), (7, some (.row 1 (UP ++ [[.int .i64 ((p / 2 : Nat) : Int)]])))], 8⟩ → Q .normal S1) :
 W Tryz.prog ttG 1 z4n Q ⟨[(0, .sl 2 LE), (6, .ptr 1 0 0), (8, .ptr 2 0 0), (9, .ptr 3 0 0), (10, .sl 1 LL), (13, .int .i64 (8 - (lv : Int))), (14, .ref 7), (59, .sl 1 LL), (60, .int .i64 ((n : Nat) : Int)), (61, .int .i64 (k : Int))], [(1, some (.box [.val nilV, .val nilV, .val nilV])), (2, some (.box [.sl 2 LE, .sl 1 IE, .int .i64 (w : Int)])), (3, some (.box [.ref 4, .ref 5, .ref 6])), (4, some (.row 1 NM)), (5, some (.deep 1 BK [])), (6, some (.row 1 SE)), (7, some (.row 1 UP))], 8⟩ := by
 conv => arg 4; whnf
 repeat ((try conv => whnf); first | (with_reducible first | refine z0a (fun Qs hN hE hR => ?_) | refine z08 ?_ | refine z00 (fun Qb kN kE kX kR => ?_) | refine z04 ?_ | refine z05 ?_ | refine z09 ?_ | refine z06 ?_ | refine z07 ?_ | (show W _ _ _ (.cond _ _ _) _ _; refine z03 rfl ?_) | (refine hN _ ?_; try clear hN hE hR Qs; (try (conv => arg 6; dsimp only [ovl, List.set, List.map, ren0]))) | ((first | refine hE _ _ ?_ | refine hR _ ?_); try clear hN hE hR Qs) | ((first | refine kN _ ?_ | refine kE _ ?_ | refine kX _ _ rfl ?_ | refine kR _ ?_); try clear kN kE kX kR Qb)) | (refine z0c f5 ?_) | (refine i_at gp ?_) | (refine z0d fi0 ?_) | (refine z0c fk1 ?_) | (refine i_at gq ?_) | (refine z0d fen ?_) | (refine z0c fu0 ?_) | (refine Exists.intro _ (And.intro ex.symm ?_)) | (refine Exists.intro n (And.intro hLl ?_)) | (refine Exists.intro un (And.intro hun ?_)) | (refine z4d (n := nat_lit 1) (by omega) ?_) | (refine z1M (n := nat_lit 2) (by omega) ?_) | (refine ccA ([]) (cN) ?_) | (refine And.intro (by simp only [List.length_append, List.length_set, List.length_replicate, List.length_cons, List.length_nil]; omega) ?_) | (refine And.intro (by kernel_rfl) ?_) | (refine stpQ ?_))
 refine hQ0 _ ?_
 (refine z01 (by rfl) ?_ ?_) <;> (repeat' (first | (exact eqA) | (refine And.intro ?_ ?_) | ((fail_if_success (with_reducible (show _ = _))); (show _ = _)))) <;> rfl
theorem rdP_op (Q : Pst) (LE IE NM BK SE UP LL : List (List T)) (w lv n k p xp un r q u : Nat) (nd : Bs) (hLl : LL.length = n) (hun : UP.length = un) (hS : SE.length ≤ 1000) (hU : un ≤ 1000) (hn : n ≤ 1000) (hlv : lv ≤ 8) (hp : p ≤ 1000)
 (f5 : (k : Int) < ((n : Nat) : Int)) (gp : LL[k]? = some [.int .i64 ((p : Nat) : Int)]) (ex : bits .xor .i64 (p : Int) 1 = ((xp : Nat) : Int)) (cN : CT Tryz.prog 75 [] [.agg [.sl 2 LE, .sl 1 IE, .int .i64 (w : Int)], .int .i64 (8 - (lv : Int)), .int .i64 ((xp : Nat) : Int)] (.str nd) [])
 (fi0 : ¬ ((k : Nat) : Int) > 0) (fk1 : ((k + 1 : Nat) : Int) < ((n : Nat) : Int)) (gq : LL[k + 1]? = some [.int .i64 ((q : Nat) : Int)]) (fe1 : ((q : Nat) : Int) = ((xp : Nat) : Int)) (fu0 : ((un : Nat) : Int) = 0)
 (hQ0 : ∀ S1, LeP 1 S1 ⟨[(0, .sl 2 LE), (6, .ptr 1 0 0), (8, .ptr 2 0 0), (9, .ptr 3 0 0), (10, .sl 1 LL), (13, .int .i64 (8 - (lv : Int))), (14, .ref 7), (59, .sl 1 LL), (60, .int .i64 ((n : Nat) : Int)), (61, .int .i64 ((k + 1 : Nat) : Int))], [(1, some (.box [.val nilV, .val nilV, .val nilV])), (2, some (.box [.sl 2 LE, .sl 1 IE, .int .i64 (w : Int)])), (3, some (.box [.ref 4, .ref 5, .ref 6])), (4, some (.row 1 NM)), (5, some (.deep 1 BK [])), (6, some (.row 1 SE)), (7, some (.row 1 (UP ++ [[.int .i64 ((p / 2 : Nat) : Int)]])))], 8⟩ → Q .normal S1) :
 W Tryz.prog ttG 1 z4n Q ⟨[(0, .sl 2 LE), (6, .ptr 1 0 0), (8, .ptr 2 0 0), (9, .ptr 3 0 0), (10, .sl 1 LL), (13, .int .i64 (8 - (lv : Int))), (14, .ref 7), (59, .sl 1 LL), (60, .int .i64 ((n : Nat) : Int)), (61, .int .i64 (k : Int))], [(1, some (.box [.val nilV, .val nilV, .val nilV])), (2, some (.box [.sl 2 LE, .sl 1 IE, .int .i64 (w : Int)])), (3, some (.box [.ref 4, .ref 5, .ref 6])), (4, some (.row 1 NM)), (5, some (.deep 1 BK [])), (6, some (.row 1 SE)), (7, some (.row 1 UP))], 8⟩ := by
 conv => arg 4; whnf
 repeat ((try conv => whnf); first | (with_reducible first | refine z0a (fun Qs hN hE hR => ?_) | refine z08 ?_ | refine z00 (fun Qb kN kE kX kR => ?_) | refine z04 ?_ | refine z05 ?_ | refine z09 ?_ | refine z06 ?_ | refine z07 ?_ | (show W _ _ _ (.cond _ _ _) _ _; refine z03 rfl ?_) | (refine hN _ ?_; try clear hN hE hR Qs; (try (conv => arg 6; dsimp only [ovl, List.set, List.map, ren0]))) | ((first | refine hE _ _ ?_ | refine hR _ ?_); try clear hN hE hR Qs) | ((first | refine kN _ ?_ | refine kE _ ?_ | refine kX _ _ rfl ?_ | refine kR _ ?_); try clear kN kE kX kR Qb)) | (refine z0c f5 ?_) | (refine i_at gp ?_) | (refine z0d fi0 ?_) | (refine z0c fk1 ?_) | (refine i_at gq ?_) | (refine z0c fe1 ?_) | (refine z0c fu0 ?_) | (refine Exists.intro _ (And.intro ex.symm ?_)) | (refine Exists.intro n (And.intro hLl ?_)) | (refine Exists.intro un (And.intro hun ?_)) | (refine z4d (n := nat_lit 1) (by omega) ?_) | (refine z1M (n := nat_lit 2) (by omega) ?_) | (refine And.intro (by simp only [List.length_append, List.length_set, List.length_replicate, List.length_cons, List.length_nil]; omega) ?_) | (refine And.intro (by kernel_rfl) ?_) | (refine stpQ ?_))
 refine hQ0 _ ?_
 (refine z01 (by rfl) ?_ ?_) <;> (repeat' (first | (exact eqA) | (refine And.intro ?_ ?_) | ((fail_if_success (with_reducible (show _ = _))); (show _ = _)))) <;> rfl
theorem rdP_il (Q : Pst) (LE IE NM BK SE UP LL : List (List T)) (w lv n k p xp un r q u : Nat) (nd : Bs) (hLl : LL.length = n) (hun : UP.length = un) (hS : SE.length ≤ 1000) (hU : un ≤ 1000) (hn : n ≤ 1000) (hlv : lv ≤ 8) (hp : p ≤ 1000)
 (f5 : (k : Int) < ((n : Nat) : Int)) (gp : LL[k]? = some [.int .i64 ((p : Nat) : Int)]) (ex : bits .xor .i64 (p : Int) 1 = ((xp : Nat) : Int)) (cN : CT Tryz.prog 75 [] [.agg [.sl 2 LE, .sl 1 IE, .int .i64 (w : Int)], .int .i64 (8 - (lv : Int)), .int .i64 ((xp : Nat) : Int)] (.str nd) [])
 (fi1 : ((k : Nat) : Int) > 0) (gr : LL[k - 1]? = some [.int .i64 ((r : Nat) : Int)]) (frF : ¬ ((r : Nat) : Int) = ((xp : Nat) : Int)) (fkn : ¬ ((k + 1 : Nat) : Int) < ((n : Nat) : Int)) (fu1 : ¬ ((un : Nat) : Int) = 0) (gu : UP[un - 1]? = some [.int .i64 ((u : Nat) : Int)]) (fdN : ¬ ((u : Nat) : Int) = ((p / 2 : Nat) : Int))
 (hQ0 : ∀ S1, LeP 1 S1 ⟨[(0, .sl 2 LE), (6, .ptr 1 0 0), (8, .ptr 2 0 0), (9, .ptr 3 0 0), (10, .sl 1 LL), (13, .int .i64 (8 - (lv : Int))), (14, .ref 7), (59, .sl 1 LL), (60, .int .i64 ((n : Nat) : Int)), (61, .int .i64 ((k + 1 : Nat) : Int))], [(1, some (.box [.val nilV, .val nilV, .val nilV])), (2, some (.box [.sl 2 LE, .sl 1 IE, .int .i64 (w : Int)])), (3, some (.box [.ref 4, .ref 5, .ref 6])), (4, some (.row 1 NM)), (5, some (.deep 1 BK [])), (6, some (.row 1 (SE ++ [[.str nd]]))), (7, some (.row 1 (UP ++ [[.int .i64 ((p / 2 : Nat) : Int)]])))], 8⟩ → Q .normal S1) :
 W Tryz.prog ttG 1 z4n Q ⟨[(0, .sl 2 LE), (6, .ptr 1 0 0), (8, .ptr 2 0 0), (9, .ptr 3 0 0), (10, .sl 1 LL), (13, .int .i64 (8 - (lv : Int))), (14, .ref 7), (59, .sl 1 LL), (60, .int .i64 ((n : Nat) : Int)), (61, .int .i64 (k : Int))], [(1, some (.box [.val nilV, .val nilV, .val nilV])), (2, some (.box [.sl 2 LE, .sl 1 IE, .int .i64 (w : Int)])), (3, some (.box [.ref 4, .ref 5, .ref 6])), (4, some (.row 1 NM)), (5, some (.deep 1 BK [])), (6, some (.row 1 SE)), (7, some (.row 1 UP))], 8⟩ := by
 conv => arg 4; whnf
 repeat ((try conv => whnf); first | (with_reducible first | refine z0a (fun Qs hN hE hR => ?_) | refine z08 ?_ | refine z00 (fun Qb kN kE kX kR => ?_) | refine z04 ?_ | refine z05 ?_ | refine z09 ?_ | refine z06 ?_ | refine z07 ?_ | (show W _ _ _ (.cond _ _ _) _ _; refine z03 rfl ?_) | (refine hN _ ?_; try clear hN hE hR Qs; (try (conv => arg 6; dsimp only [ovl, List.set, List.map, ren0]))) | ((first | refine hE _ _ ?_ | refine hR _ ?_); try clear hN hE hR Qs) | ((first | refine kN _ ?_ | refine kE _ ?_ | refine kX _ _ rfl ?_ | refine kR _ ?_); try clear kN kE kX kR Qb)) | (refine z0c f5 ?_) | (refine i_at gp ?_) | (refine z0c fi1 ?_) | (refine i_at gr ?_) | (refine z0d frF ?_) | (refine z0d fkn ?_) | (refine z0d fu1 ?_) | (refine Exists.intro _ (And.intro gu ?_)) | (refine z3j fdN ?_) | (refine Exists.intro _ (And.intro ex.symm ?_)) | (refine Exists.intro n (And.intro hLl ?_)) | (refine Exists.intro un (And.intro hun ?_)) | (refine z4d (n := nat_lit 1) (by omega) ?_) | (refine z1M (n := nat_lit 2) (by omega) ?_) | (refine ccA ([]) (cN) ?_) | (refine And.intro (by simp only [List.length_append, List.length_set, List.length_replicate, List.length_cons, List.length_nil]; omega) ?_) | (refine And.intro (by kernel_rfl) ?_) | (refine stpQ ?_))
 refine hQ0 _ ?_
 (refine z01 (by rfl) ?_ ?_) <;> (repeat' (first | (exact eqA) | (refine And.intro ?_ ?_) | ((fail_if_success (with_reducible (show _ = _))); (show _ = _)))) <;> rfl
theorem rdP_in (Q : Pst) (LE IE NM BK SE UP LL : List (List T)) (w lv n k p xp un r q u : Nat) (nd : Bs) (hLl : LL.length = n) (hun : UP.length = un) (hS : SE.length ≤ 1000) (hU : un ≤ 1000) (hn : n ≤ 1000) (hlv : lv ≤ 8) (hp : p ≤ 1000)
 (f5 : (k : Int) < ((n : Nat) : Int)) (gp : LL[k]? = some [.int .i64 ((p : Nat) : Int)]) (ex : bits .xor .i64 (p : Int) 1 = ((xp : Nat) : Int)) (cN : CT Tryz.prog 75 [] [.agg [.sl 2 LE, .sl 1 IE, .int .i64 (w : Int)], .int .i64 (8 - (lv : Int)), .int .i64 ((xp : Nat) : Int)] (.str nd) [])
 (fi1 : ((k : Nat) : Int) > 0) (gr : LL[k - 1]? = some [.int .i64 ((r : Nat) : Int)]) (frF : ¬ ((r : Nat) : Int) = ((xp : Nat) : Int)) (fk1 : ((k + 1 : Nat) : Int) < ((n : Nat) : Int)) (gq : LL[k + 1]? = some [.int .i64 ((q : Nat) : Int)]) (fen : ¬ ((q : Nat) : Int) = ((xp : Nat) : Int)) (fu1 : ¬ ((un : Nat) : Int) = 0) (gu : UP[un - 1]? = some [.int .i64 ((u : Nat) : Int)]) (fdN : ¬ ((u : Nat) : Int) = ((p / 2 : Nat) : Int))
 (hQ0 : ∀ S1, LeP 1 S1 ⟨[(0, .sl 2 LE), (6, .ptr 1 0 0), (8, .ptr 2 0 0), (9, .ptr 3 0 0), (10, .sl 1 LL), (13, .int .i64 (8 - (lv : Int))), (14, .ref 7), (59, .sl 1 LL), (60, .int .i64 ((n : Nat) : Int)), (61, .int .i64 ((k + 1 : Nat) : Int))], [(1, some (.box [.val nilV, .val nilV, .val nilV])), (2, some (.box [.sl 2 LE, .sl 1 IE, .int .i64 (w : Int)])), (3, some (.box [.ref 4, .ref 5, .ref 6])), (4, some (.row 1 NM)), (5, some (.deep 1 BK [])), (6, some (.row 1 (SE ++ [[.str nd]]))), (7, some (.row 1 (UP ++ [[.int .i64 ((p / 2 : Nat) : Int)]])))], 8⟩ → Q .normal S1) :
 W Tryz.prog ttG 1 z4n Q ⟨[(0, .sl 2 LE), (6, .ptr 1 0 0), (8, .ptr 2 0 0), (9, .ptr 3 0 0), (10, .sl 1 LL), (13, .int .i64 (8 - (lv : Int))), (14, .ref 7), (59, .sl 1 LL), (60, .int .i64 ((n : Nat) : Int)), (61, .int .i64 (k : Int))], [(1, some (.box [.val nilV, .val nilV, .val nilV])), (2, some (.box [.sl 2 LE, .sl 1 IE, .int .i64 (w : Int)])), (3, some (.box [.ref 4, .ref 5, .ref 6])), (4, some (.row 1 NM)), (5, some (.deep 1 BK [])), (6, some (.row 1 SE)), (7, some (.row 1 UP))], 8⟩ := by
 conv => arg 4; whnf
 repeat ((try conv => whnf); first | (with_reducible first | refine z0a (fun Qs hN hE hR => ?_) | refine z08 ?_ | refine z00 (fun Qb kN kE kX kR => ?_) | refine z04 ?_ | refine z05 ?_ | refine z09 ?_ | refine z06 ?_ | refine z07 ?_ | (show W _ _ _ (.cond _ _ _) _ _; refine z03 rfl ?_) | (refine hN _ ?_; try clear hN hE hR Qs; (try (conv => arg 6; dsimp only [ovl, List.set, List.map, ren0]))) | ((first | refine hE _ _ ?_ | refine hR _ ?_); try clear hN hE hR Qs) | ((first | refine kN _ ?_ | refine kE _ ?_ | refine kX _ _ rfl ?_ | refine kR _ ?_); try clear kN kE kX kR Qb)) | (refine z0c f5 ?_) | (refine i_at gp ?_) | (refine z0c fi1 ?_) | (refine i_at gr ?_) | (refine z0d frF ?_) | (refine z0c fk1 ?_) | (refine i_at gq ?_) | (refine z0d fen ?_) | (refine z0d fu1 ?_) | (refine Exists.intro _ (And.intro gu ?_)) | (refine z3j fdN ?_) | (refine Exists.intro _ (And.intro ex.symm ?_)) | (refine Exists.intro n (And.intro hLl ?_)) | (refine Exists.intro un (And.intro hun ?_)) | (refine z4d (n := nat_lit 1) (by omega) ?_) | (refine z1M (n := nat_lit 2) (by omega) ?_) | (refine ccA ([]) (cN) ?_) | (refine And.intro (by simp only [List.length_append, List.length_set, List.length_replicate, List.length_cons, List.length_nil]; omega) ?_) | (refine And.intro (by kernel_rfl) ?_) | (refine stpQ ?_))
 refine hQ0 _ ?_
 (refine z01 (by rfl) ?_ ?_) <;> (repeat' (first | (exact eqA) | (refine And.intro ?_ ?_) | ((fail_if_success (with_reducible (show _ = _))); (show _ = _)))) <;> rfl
theorem rdP_ip (Q : Pst) (LE IE NM BK SE UP LL : List (List T)) (w lv n k p xp un r q u : Nat) (nd : Bs) (hLl : LL.length = n) (hun : UP.length = un) (hS : SE.length ≤ 1000) (hU : un ≤ 1000) (hn : n ≤ 1000) (hlv : lv ≤ 8) (hp : p ≤ 1000)
 (f5 : (k : Int) < ((n : Nat) : Int)) (gp : LL[k]? = some [.int .i64 ((p : Nat) : Int)]) (ex : bits .xor .i64 (p : Int) 1 = ((xp : Nat) : Int)) (cN : CT Tryz.prog 75 [] [.agg [.sl 2 LE, .sl 1 IE, .int .i64 (w : Int)], .int .i64 (8 - (lv : Int)), .int .i64 ((xp : Nat) : Int)] (.str nd) [])
 (fi1 : ((k : Nat) : Int) > 0) (gr : LL[k - 1]? = some [.int .i64 ((r : Nat) : Int)]) (frF : ¬ ((r : Nat) : Int) = ((xp : Nat) : Int)) (fk1 : ((k + 1 : Nat) : Int) < ((n : Nat) : Int)) (gq : LL[k + 1]? = some [.int .i64 ((q : Nat) : Int)]) (fe1 : ((q : Nat) : Int) = ((xp : Nat) : Int)) (fu1 : ¬ ((un : Nat) : Int) = 0) (gu : UP[un - 1]? = some [.int .i64 ((u : Nat) : Int)]) (fdN : ¬ ((u : Nat) : Int) = ((p / 2 : Nat) : Int))
 (hQ0 : ∀ S1, LeP 1 S1 ⟨[(0, .sl 2 LE), (6, .ptr 1 0 0), (8, .ptr 2 0 0), (9, .ptr 3 0 0), (10, .sl 1 LL), (13, .int .i64 (8 - (lv : Int))), (14, .ref 7), (59, .sl 1 LL), (60, .int .i64 ((n : Nat) : Int)), (61, .int .i64 ((k + 1 : Nat) : Int))], [(1, some (.box [.val nilV, .val nilV, .val nilV])), (2, some (.box [.sl 2 LE, .sl 1 IE, .int .i64 (w : Int)])), (3, some (.box [.ref 4, .ref 5, .ref 6])), (4, some (.row 1 NM)), (5, some (.deep 1 BK [])), (6, some (.row 1 SE)), (7, some (.row 1 (UP ++ [[.int .i64 ((p / 2 : Nat) : Int)]])))], 8⟩ → Q .normal S1) :
 W Tryz.prog ttG 1 z4n Q ⟨[(0, .sl 2 LE), (6, .ptr 1 0 0), (8, .ptr 2 0 0), (9, .ptr 3 0 0), (10, .sl 1 LL), (13, .int .i64 (8 - (lv : Int))), (14, .ref 7), (59, .sl 1 LL), (60, .int .i64 ((n : Nat) : Int)), (61, .int .i64 (k : Int))], [(1, some (.box [.val nilV, .val nilV, .val nilV])), (2, some (.box [.sl 2 LE, .sl 1 IE, .int .i64 (w : Int)])), (3, some (.box [.ref 4, .ref 5, .ref 6])), (4, some (.row 1 NM)), (5, some (.deep 1 BK [])), (6, some (.row 1 SE)), (7, some (.row 1 UP))], 8⟩ := by
 conv => arg 4; whnf
 repeat ((try conv => whnf); first | (with_reducible first | refine z0a (fun Qs hN hE hR => ?_) | refine z08 ?_ | refine z00 (fun Qb kN kE kX kR => ?_) | refine z04 ?_ | refine z05 ?_ | refine z09 ?_ | refine z06 ?_ | refine z07 ?_ | (show W _ _ _ (.cond _ _ _) _ _; refine z03 rfl ?_) | (refine hN _ ?_; try clear hN hE hR Qs; (try (conv => arg 6; dsimp only [ovl, List.set, List.map, ren0]))) | ((first | refine hE _ _ ?_ | refine hR _ ?_); try clear hN hE hR Qs) | ((first | refine kN _ ?_ | refine kE _ ?_ | refine kX _ _ rfl ?_ | refine kR _ ?_); try clear kN kE kX kR Qb)) | (refine z0c f5 ?_) | (refine i_at gp ?_) | (refine z0c fi1 ?_) | (refine i_at gr ?_) | (refine z0d frF ?_) | (refine z0c fk1 ?_) | (refine i_at gq ?_) | (refine z0c fe1 ?_) | (refine z0d fu1 ?_) | (refine Exists.intro _ (And.intro gu ?_)) | (refine z3j fdN ?_) | (refine Exists.intro _ (And.intro ex.symm ?_)) | (refine Exists.intro n (And.intro hLl ?_)) | (refine Exists.intro un (And.intro hun ?_)) | (refine z4d (n := nat_lit 1) (by omega) ?_) | (refine z1M (n := nat_lit 2) (by omega) ?_) | (refine And.intro (by simp only [List.length_append, List.length_set, List.length_replicate, List.length_cons, List.length_nil]; omega) ?_) | (refine And.intro (by kernel_rfl) ?_) | (refine stpQ ?_))
 refine hQ0 _ ?_
 (refine z01 (by rfl) ?_ ?_) <;> (repeat' (first | (exact eqA) | (refine And.intro ?_ ?_) | ((fail_if_success (with_reducible (show _ = _))); (show _ = _)))) <;> rfl
theorem rdP_s (Q : Pst) (LE IE NM BK SE UP LL : List (List T)) (w lv n k p xp un r q u : Nat) (nd : Bs) (hLl : LL.length = n) (hun : UP.length = un) (hS : SE.length ≤ 1000) (hU : un ≤ 1000) (hn : n ≤ 1000) (hlv : lv ≤ 8) (hp : p ≤ 1000)
 (f5 : (k : Int) < ((n : Nat) : Int)) (gp : LL[k]? = some [.int .i64 ((p : Nat) : Int)]) (ex : bits .xor .i64 (p : Int) 1 = ((xp : Nat) : Int)) (cN : CT Tryz.prog 75 [] [.agg [.sl 2 LE, .sl 1 IE, .int .i64 (w : Int)], .int .i64 (8 - (lv : Int)), .int .i64 ((xp : Nat) : Int)] (.str nd) [])
 (fi1 : ((k : Nat) : Int) > 0) (gr : LL[k - 1]? = some [.int .i64 ((r : Nat) : Int)]) (frT : ((r : Nat) : Int) = ((xp : Nat) : Int)) (fu1 : ¬ ((un : Nat) : Int) = 0) (gu : UP[un - 1]? = some [.int .i64 ((u : Nat) : Int)]) (fdE : ((u : Nat) : Int) = ((p / 2 : Nat) : Int))
 (hQ0 : ∀ S1, LeP 1 S1 ⟨[(0, .sl 2 LE), (6, .ptr 1 0 0), (8, .ptr 2 0 0), (9, .ptr 3 0 0), (10, .sl 1 LL), (13, .int .i64 (8 - (lv : Int))), (14, .ref 7), (59, .sl 1 LL), (60, .int .i64 ((n : Nat) : Int)), (61, .int .i64 ((k + 1 : Nat) : Int))], [(1, some (.box [.val nilV, .val nilV, .val nilV])), (2, some (.box [.sl 2 LE, .sl 1 IE, .int .i64 (w : Int)])), (3, some (.box [.ref 4, .ref 5, .ref 6])), (4, some (.row 1 NM)), (5, some (.deep 1 BK [])), (6, some (.row 1 SE)), (7, some (.row 1 UP))], 8⟩ → Q .normal S1) :
 W Tryz.prog ttG 1 z4n Q ⟨[(0, .sl 2 LE), (6, .ptr 1 0 0), (8, .ptr 2 0 0), (9, .ptr 3 0 0), (10, .sl 1 LL), (13, .int .i64 (8 - (lv : Int))), (14, .ref 7), (59, .sl 1 LL), (60, .int .i64 ((n : Nat) : Int)), (61, .int .i64 (k : Int))], [(1, some (.box [.val nilV, .val nilV, .val nilV])), (2, some (.box [.sl 2 LE, .sl 1 IE, .int .i64 (w : Int)])), (3, some (.box [.ref 4, .ref 5, .ref 6])), (4, some (.row 1 NM)), (5, some (.deep 1 BK [])), (6, some (.row 1 SE)), (7, some (.row 1 UP))], 8⟩ := by
 conv => arg 4; whnf
 repeat ((try conv => whnf); first | (with_reducible first | refine z0a (fun Qs hN hE hR => ?_) | refine z08 ?_ | refine z00 (fun Qb kN kE kX kR => ?_) | refine z04 ?_ | refine z05 ?_ | refine z09 ?_ | refine z06 ?_ | refine z07 ?_ | (show W _ _ _ (.cond _ _ _) _ _; refine z03 rfl ?_) | (refine hN _ ?_; try clear hN hE hR Qs; (try (conv => arg 6; dsimp only [ovl, List.set, List.map, ren0]))) | ((first | refine hE _ _ ?_ | refine hR _ ?_); try clear hN hE hR Qs) | ((first | refine kN _ ?_ | refine kE _ ?_ | refine kX _ _ rfl ?_ | refine kR _ ?_); try clear kN kE kX kR Qb)) | (refine z0c f5 ?_) | (refine i_at gp ?_) | (refine z0c fi1 ?_) | (refine i_at gr ?_) | (refine z0c frT ?_) | (refine z0d fu1 ?_) | (refine Exists.intro _ (And.intro gu ?_)) | (refine z3k fdE ?_) | (refine Exists.intro _ (And.intro ex.symm ?_)) | (refine Exists.intro n (And.intro hLl ?_)) | (refine Exists.intro un (And.intro hun ?_)) | (refine z4d (n := nat_lit 1) (by omega) ?_) | (refine z1M (n := nat_lit 2) (by omega) ?_) | (refine And.intro (by simp only [List.length_append, List.length_set, List.length_replicate, List.length_cons, List.length_nil]; omega) ?_) | (refine And.intro (by kernel_rfl) ?_) | (refine stpQ ?_))
 refine hQ0 _ ?_
 (refine z01 (by rfl) ?_ ?_) <;> (repeat' (first | (exact eqA) | (refine And.intro ?_ ?_) | ((fail_if_success (with_reducible (show _ = _))); (show _ = _)))) <;> rfl
end
end Go.Proofs.YtfjbinbpgdiafaaGreatDoor
namespace Go.Proofs.YtfjbinbpgdiafaaGreatDoor
set_option linter.unusedVariables false
set_option linter.unusedSimpArgs false
set_option linter.unusedSectionVars false
open Go.RowKit Pl
theorem x1_lt {n p : Nat} (h : p < 2 ^ (n + 1)) : x1 p < 2 ^ (n + 1) := by
 rw [Nat.pow_succ] at h ⊢
 unfold x1
 split <;> omega
theorem len2M {α : Type} (a b : List α) : (a ++ b).length = a.length + b.length := List.length_append
def sndJ (L : List Nat) (i : Nat) : Prop := ∃ h : i < L.length, ∃ h0 : 0 < i, L[i] % 2 = 1 ∧ L[i - 1] + 1 = L[i]
theorem zeE {L : List Nat} {k x : Nat} (h : L[k]? = some x) : (npE L)[k]? = some [.int .i64 (x : Int)] := by
 obtain ⟨hk, e⟩ := List.getElem?_eq_some_iff.1 h
 rw [z0C hk, e]
theorem ze5 (l : List Lf) (w d : Nat) (L : List Nat) : sdA l w 0 d L = [] := rfl
theorem ze6 (l : List Lf) (w n d : Nat) (L : List Nat) : sdA l w (n + 1) d L = sdL l w d L ++ sdA l w n (d + 1) (lvUp L) := rfl
theorem zfH (l : List Lf) (w d : Nat) : sdL l w d [] = [] := rfl
theorem cl_lvM (l : List Lf) : ∀ e ∈ lvE l, ∀ c ∈ e, cl0 c := fun e he c hc => by
 simp only [lvE, List.mem_map] at he
 obtain ⟨x, _, rfl⟩ := he
 simp only [List.mem_cons, List.not_mem_nil, or_false] at hc
 rcases hc with rfl | rfl <;> trivial
section
attribute [local irreducible] z0t z0u z0A AnsP LeP W CvE sdA sdL z0D
theorem z8w (l : List Bs) (h : (l.length : Int) ≤ 100000000) : CT Tryz.prog 74 [] [.sl 1 (strE l)] (.ref 1) [.row 1 (strE l)] := by
 have hl := z0h l
 refine z0b z0p 1 rfl Tryz.func74 rfl rfl rfl ?_
 conv => arg 6; whnf
 repeat ((try conv => whnf); first | (with_reducible first | refine z0a (fun Qs hN hE hR => ?_) | refine z08 ?_ | refine z00 (fun Qb kN kE kX kR => ?_) | refine z04 ?_ | refine z05 ?_ | refine z09 ?_ | refine z06 ?_ | refine z07 ?_ | (show W _ _ _ (.cond _ _ _) _ _; refine z03 rfl ?_) | (refine hN _ ?_; try clear hN hE hR Qs; (try (conv => arg 6; dsimp only [ovl, List.set, List.map, ren0]))) | ((first | refine hE _ _ ?_ | refine hR _ ?_); try clear hN hE hR Qs) | ((first | refine kN _ ?_ | refine kE _ ?_ | refine kX _ _ rfl ?_ | refine kR _ ?_); try clear kN kE kX kR Qb)) | (refine And.intro (by simp only [List.length_append, List.length_cons, List.length_nil, List.nil_append, List.length_replicate]; omega) ?_) | (refine And.intro (by kernel_rfl) ?_) | (refine stpQ ?_))
 (refine z02 (by rfl) ?_ ?_ (by rfl)) <;> (repeat' (first | (exact eqA) | (refine And.intro ?_ ?_) | ((fail_if_success (with_reducible (show _ = _))); (show _ = _))))
def PmI (l : List Lf) (w lv : Nat) (L : List Nat) (S : List Bs) (x : Nat × Nat × List Nat × List Bs) : Prop :=
 x.1 ≤ L.length ∧ ((x.2.1 = x.1 ∧ ¬ sndJ L x.1) ∨ (x.2.1 = x.1 + 1 ∧ sndJ L x.1)) ∧ lvUp L = x.2.2.1 ++ lvUp (L.drop x.2.1) ∧ S ++ sdL l w lv L = x.2.2.2 ++ sdL l w lv (L.drop x.2.1) ∧ x.2.2.1.length ≤ x.1 ∧ (x.1 = 0 → x.2.2.1 = []) ∧ (0 < x.1 → 0 < x.2.2.1.length ∧ x.2.2.1[x.2.2.1.length - 1]? = some (L.getD (x.1 - 1) 0 / 2))
set_option maxRecDepth 100000 in
set_option maxHeartbeats 8000000 in
theorem ze7 (l : List Lf) (names : List Bs) (bks : List (List Lf)) (w lv m : Nat) (L : List Nat) (S : List Bs) (h : leavesOk l = true) (hwi : 1 ≤ w ∧ w ≤ 32) (hm : 8 - lv = m + 1) (hL : Ups L) (hL2 : ∀ p ∈ L, p < 2 ^ (m + 1)) (hLm : L.length ≤ 1000) (hS1 : (S ++ sdL l w lv L).length ≤ 1000)
 (x : Nat × Nat × List Nat × List Bs) (hx : PmI l w lv L S x) (hkl : x.1 < L.length) (Q : Pst)
 (hQ : ∀ x', PmI l w lv L S x' → L.length - x'.1 < L.length - x.1 → ∀ S1, LeP 1 S1 ⟨[(0, .sl 2 (lvE l)), (6, .ptr 1 0 0), (8, .ptr 2 0 0), (9, .ptr 3 0 0), (10, .sl 1 (npE L)), (13, .int .i64 (8 - (lv : Int))), (14, .ref 7), (59, .sl 1 (npE L)), (60, .int .i64 ((L.length : Nat) : Int)), (61, .int .i64 (x'.1 : Int))], [(1, some (.box [.val nilV, .val nilV, .val nilV])), (2, some (.box [.sl 2 (lvE l), .sl 1 (ixE l), .int .i64 (w : Int)])), (3, some (.box [.ref 4, .ref 5, .ref 6])), (4, some (.row 1 (strE names))), (5, some (.deep 1 (vwD bks) [])), (6, some (.row 1 (strE x'.2.2.2))), (7, some (.row 1 (npE x'.2.2.1)))], 8⟩ → Q .normal S1) :
 W Tryz.prog ttG 1 z4n Q ⟨[(0, .sl 2 (lvE l)), (6, .ptr 1 0 0), (8, .ptr 2 0 0), (9, .ptr 3 0 0), (10, .sl 1 (npE L)), (13, .int .i64 (8 - (lv : Int))), (14, .ref 7), (59, .sl 1 (npE L)), (60, .int .i64 ((L.length : Nat) : Int)), (61, .int .i64 (x.1 : Int))], [(1, some (.box [.val nilV, .val nilV, .val nilV])), (2, some (.box [.sl 2 (lvE l), .sl 1 (ixE l), .int .i64 (w : Int)])), (3, some (.box [.ref 4, .ref 5, .ref 6])), (4, some (.row 1 (strE names))), (5, some (.deep 1 (vwD bks) [])), (6, some (.row 1 (strE x.2.2.2))), (7, some (.row 1 (npE x.2.2.1)))], 8⟩ := by
 obtain ⟨k, j, up, S2⟩ := x
 obtain ⟨hk, hsnd, hup, hsd, hul, hu0, hu1⟩ := hx
 dsimp only at hk hsnd hup hsd hul hu0 hu1 hkl hQ ⊢
 have hLl := z1d L
 have hupe := z1d up
 have hS2e := z0h S2
 have hS2l : S2.length ≤ 1000 := by
  have := congrArg List.length hsd
  rw [len2M S2] at this
  omega
 have f5 : (k : Int) < ((L.length : Nat) : Int) := by omega
 have gp := z0C hkl
 have hpl := hL2 _ (List.getElem_mem hkl)
 have hp256 : L[k] < 256 := by
  have : 2 ^ (m + 1) ≤ 2 ^ 8 := Nat.pow_le_pow_right (by omega) (by omega)
  omega
 have ex := zfp hp256
 have hLd : L.getD k 0 = L[k] := by simp [List.getD, List.getElem?_eq_getElem hkl]
 have hx1 := x1_lt hpl
 have cN := zcO l w h hwi lv (x1 L[k]) (by omega) (by rw [hm]; exact hx1)
 have hapS := z1H S2 (z0D l w lv (x1 L[k]))
 have hapU := z7g up (L[k] / 2)
 have nse : ∀ h2 : k + 1 < L.length, sndJ L (k + 1) → L[k] % 2 = 0 ∧ L[k + 1] = L[k] + 1 := fun h2 ⟨_, _, c1, c2⟩ => by
  have e : L[k + 1 - 1] = L[k] := rfl
  rw [e] at c2
  exact ⟨by omega, by omega⟩
 have newU : 0 < (up ++ [L[k] / 2]).length ∧ (up ++ [L[k] / 2])[(up ++ [L[k] / 2]).length - 1]? = some (L.getD (k + 1 - 1) 0 / 2) := by
  rw [show k + 1 - 1 = k by omega, hLd]
  simp
 have b1 : (strE S2).length ≤ 1000 := by omega
 have b2 : up.length ≤ 1000 := by omega
 have b3 : lv ≤ 8 := by omega
 have b4 : L[k] ≤ 1000 := by omega
 rcases hsnd with ⟨rfl, hns⟩ | ⟨rfl, hys⟩
 ·
   have hprev : ∀ h0 : 0 < j, ¬ L[j - 1] / 2 = L[j] / 2 := fun h0 c => by
    have hlt := z3J hL (k := j - 1) (by omega)
    have e : L[j - 1 + 1] = L[j] := by congr 1; omega
    rw [e] at hlt
    exact hns ⟨hkl, h0, by omega, by omega⟩
   have hx1p : ∀ h0 : 0 < j, ¬ ((L[j - 1] : Nat) : Int) = ((x1 L[j] : Nat) : Int) := fun h0 c => by
    have := hprev h0
    unfold x1 at c
    split at c <;> omega
   have prv : (∃ h0 : 0 < j, (npE up)[up.length - 1]? = some [.int .i64 ((L[j - 1] / 2 : Nat) : Int)] ∧ 0 < up.length) ∨ (j = 0 ∧ up = []) := by
    by_cases h0 : 0 < j
    ·obtain ⟨hu2, hu3⟩ := hu1 h0
     have hLd2 : L.getD (j - 1) 0 = L[j - 1] := by simp [List.getD, List.getElem?_eq_getElem (show j - 1 < L.length by omega)]
     rw [hLd2] at hu3
     exact .inl ⟨h0, zeE hu3, hu2⟩
    ·exact .inr ⟨by omega, hu0 (by omega)⟩
   by_cases hpair : ∃ h2 : j + 1 < L.length, L[j] % 2 = 0 ∧ L[j + 1] = L[j] + 1
   ·obtain ⟨h2, h3, h4⟩ := hpair
    obtain ⟨lu, ln⟩ := z98 h2 h3 h4
    have eS : sdL l w lv (L.drop j) = sdL l w lv (L.drop (j + 2)) := ze1 h2 h3 h4
    have fk1 : ((j + 1 : Nat) : Int) < ((L.length : Nat) : Int) := by omega
    have gq := z0C h2
    have fe1 : ((L[j + 1] : Nat) : Int) = ((x1 L[j] : Nat) : Int) := by rw [h4, x1, if_pos h3]
    have inv1 : sndJ L (j + 1) := ⟨h2, by omega, by omega, by show L[j + 1 - 1] + 1 = L[j + 1]; have e : L[j + 1 - 1] = L[j] := rfl; omega⟩
    have inv2 : lvUp L = (up ++ [L[j] / 2]) ++ lvUp (L.drop (j + 2)) := by rw [hup, lu]; simp
    have inv3 : S ++ sdL l w lv L = S2 ++ sdL l w lv (L.drop (j + 2)) := by rw [hsd, eS]
    have hQ2 := hQ (j + 1, j + 2, up ++ [L[j] / 2], S2) ⟨by show j + 1 ≤ L.length; omega, .inr ⟨rfl, inv1⟩, inv2, inv3, by simp; omega, fun c => absurd c (Nat.succ_ne_zero _), fun _ => newU⟩ (by show L.length - (j + 1) < L.length - j; omega)
    dsimp only at hQ2
    rw [hapU] at hQ2
    rcases prv with ⟨h0, gu, hu2⟩ | ⟨h0, hue⟩
    ·exact rdP_ip Q _ _ _ _ _ _ _ w lv _ _ _ _ _ _ _ _ _ hLl hupe b1 b2 hLm b3 b4 f5 gp ex cN (by omega) (z0C (l := L) (k := j - 1) (by omega)) (hx1p h0) fk1 gq fe1 (by omega) gu (fun c => hprev h0 (by omega)) hQ2
    ·exact rdP_op Q _ _ _ _ _ _ _ w lv _ _ _ _ _ 0 _ 0 _ hLl hupe b1 b2 hLm b3 b4 f5 gp ex cN (by omega) fk1 gq fe1 (by rw [hue]; rfl) hQ2
   ·obtain ⟨lu, ln⟩ := zcG hkl (fun h2 c => hpair ⟨h2, c⟩)
    have eS : sdL l w lv (L.drop j) = z0D l w lv (x1 L[j]) :: sdL l w lv (L.drop (j + 1)) := zfy hkl (fun h2 c => hpair ⟨h2, c⟩)
    have inv1 : ¬ sndJ L (j + 1) := fun c => hpair ⟨c.1, nse c.1 c⟩
    have inv2 : lvUp L = (up ++ [L[j] / 2]) ++ lvUp (L.drop (j + 1)) := by rw [hup, lu]; simp
    have inv3 : S ++ sdL l w lv L = (S2 ++ [z0D l w lv (x1 L[j])]) ++ sdL l w lv (L.drop (j + 1)) := by rw [hsd, eS]; simp
    have hQ2 := hQ (j + 1, j + 1, up ++ [L[j] / 2], S2 ++ [z0D l w lv (x1 L[j])]) ⟨by show j + 1 ≤ L.length; omega, .inl ⟨rfl, inv1⟩, inv2, inv3, by simp; omega, fun c => absurd c (Nat.succ_ne_zero _), fun _ => newU⟩ (by show L.length - (j + 1) < L.length - j; omega)
    dsimp only at hQ2
    rw [hapU, hapS] at hQ2
    by_cases h2 : j + 1 < L.length
    ·have fk1 : ((j + 1 : Nat) : Int) < ((L.length : Nat) : Int) := by omega
     have gq := z0C h2
     have hlt2 := z3J hL h2
     have fen : ¬ ((L[j + 1] : Nat) : Int) = ((x1 L[j] : Nat) : Int) := fun c => hpair ⟨h2, by
      unfold x1 at c
      split at c <;> omega⟩
     rcases prv with ⟨h0, gu, hu2⟩ | ⟨h0, hue⟩
     ·exact rdP_in Q _ _ _ _ _ _ _ w lv _ _ _ _ _ _ _ _ _ hLl hupe b1 b2 hLm b3 b4 f5 gp ex cN (by omega) (z0C (l := L) (k := j - 1) (by omega)) (hx1p h0) fk1 gq fen (by omega) gu (fun c => hprev h0 (by omega)) hQ2
     ·exact rdP_on Q _ _ _ _ _ _ _ w lv _ _ _ _ _ 0 _ 0 _ hLl hupe b1 b2 hLm b3 b4 f5 gp ex cN (by omega) fk1 gq fen (by rw [hue]; rfl) hQ2
    ·have fkn : ¬ ((j + 1 : Nat) : Int) < ((L.length : Nat) : Int) := by omega
     rcases prv with ⟨h0, gu, hu2⟩ | ⟨h0, hue⟩
     ·exact rdP_il Q _ _ _ _ _ _ _ w lv _ _ _ _ _ _ 0 _ _ hLl hupe b1 b2 hLm b3 b4 f5 gp ex cN (by omega) (z0C (l := L) (k := j - 1) (by omega)) (hx1p h0) fkn (by omega) gu (fun c => hprev h0 (by omega)) hQ2
     ·exact rdP_ol Q _ _ _ _ _ _ _ w lv _ _ _ _ _ 0 0 0 _ hLl hupe b1 b2 hLm b3 b4 f5 gp ex cN (by omega) fkn (by rw [hue]; rfl) hQ2
 ·
   obtain ⟨_, h8, h9, h10⟩ := hys
   obtain ⟨hu2, hu3⟩ := hu1 h8
   have gr := z0C (l := L) (k := k - 1) (by omega)
   have hLd2 : L.getD (k - 1) 0 = L[k - 1] := by simp [List.getD, List.getElem?_eq_getElem (show k - 1 < L.length by omega)]
   rw [hLd2, show L[k - 1] / 2 = L[k] / 2 by omega] at hu3
   have inv1 : ¬ sndJ L (k + 1) := fun ⟨_, _, c2, c3⟩ => by
    have e : L[k + 1 - 1] = L[k] := rfl
    rw [e] at c3
    omega
   have inv5 : 0 < up.length ∧ up[up.length - 1]? = some (L.getD (k + 1 - 1) 0 / 2) := ⟨hu2, by rw [show k + 1 - 1 = k by omega, hLd]; exact hu3⟩
   have hQ2 := hQ (k + 1, k + 1, up, S2) ⟨by show k + 1 ≤ L.length; omega, .inl ⟨rfl, inv1⟩, hup, hsd, by show up.length ≤ k + 1; omega, fun c => absurd c (Nat.succ_ne_zero _), fun _ => inv5⟩ (by show L.length - (k + 1) < L.length - k; omega)
   dsimp only at hQ2
   exact rdP_s Q _ _ _ _ _ _ _ w lv _ _ _ _ _ _ 0 _ _ hLl hupe b1 b2 hLm b3 b4 f5 gp ex cN (by omega) gr (by rw [x1, if_neg (by omega)]; omega) (by omega) (zeE hu3) rfl hQ2
end
end Go.Proofs.YtfjbinbpgdiafaaGreatDoor
