/- Functions by content: a new shard of the reference; a round of a drawn life: a change is taken. Functions by content: rounds of a drawn life: a letter is heard. Functions by content: rounds of a drawn life: a letter is heard. -/
import Derived.Test.YtfjbinbpgdiafaaGreatDoorSrx
import Derived.Test.YtfjbinbpgdiafaaGreatDoorSva
import Derived.Test.YtfjbinbpgdiafaaGreatDoorCB
namespace Go.Proofs.YtfjbinbpgdiafaaGreatDoor
set_option maxRecDepth 100000
set_option maxHeartbeats 8000000
set_option linter.unusedVariables false
set_option linter.unusedSimpArgs false
set_option linter.unusedSectionVars false
open Go.RowKit Pl
def zat : Code → List Code
 | .seq x y => zat x ++ zat y
 | .block _ c => zat c
 | .cond _ x y => zat x ++ zat y
 | .loop c => c :: zat c
 | _ => []
def lpAt (k : Nat) (f : Func) : Code := match f.body with
 | some c => (zat c).getD k .skip
 | none => .skip
noncomputable def z4u : Code := lpAt 0 Tryz.f31
section
attribute [local irreducible] z0r z0s z0z AnsP LeP W CvE z0A
theorem z83 (a K : Int) : CT Tryz.prog 98 [] [.int .i64 a, .int .i64 K, .agg [.sl 3 []]] (.agg [.int .i64 a, .int .i64 K, .bool true, .sl 3 [], .int .i64 0, .ref 1, .ref 2, .ref 3, .int .i64 0, .int .i64 0, .int .i64 0]) [.row 1 (vwE sv0.vs), .row 1 (ntE sv0.tk), .row 3 (chE sv0.al)] := by
 have c2 := za3 [] z0Y ⟨by decide, fun k => by
  have h : flAt [] k = flAt [] 0 := by cases k <;> rfl
  rw [h]
  exact ⟨by decide, by decide⟩⟩
 have e0 : z10 [] z0Y = [] := by unfold z10; split <;> rfl
 rw [e0] at c2
 unfold z0Y at c2
 have f0 : ¬ (0 : Int) < (0 : Int) := by decide
 refine z01 z0p 1 rfl Tryz.func98 rfl rfl rfl ?_
 conv => arg 6; whnf
 repeat ((try conv => whnf); first | (with_reducible first | refine z0f (fun Qs hN hE hR => ?_) | refine z0d ?_ | refine z04 (fun Qb kN kE kX kR => ?_) | refine z06 ?_ | refine z07 ?_ | refine z0e ?_ | refine z08 ?_ | refine z09 ?_ | (show W _ _ _ (.cond _ _ _) _ _; refine z05 rfl ?_) | (refine hN _ ?_; try clear hN hE hR Qs; (try (conv => arg 6; dsimp only [ovl, List.set, List.map, ren0]))) | ((first | refine hE _ _ ?_ | refine hR _ ?_); try clear hN hE hR Qs) | ((first | refine kN _ ?_ | refine kE _ ?_ | refine kX _ _ rfl ?_ | refine kR _ ?_); try clear kN kE kX kR Qb)) | (refine ccA ([]) (c2) ?_) | (refine Exists.intro 0 (And.intro rfl ?_)) | (refine And.intro (by simp only [List.length_append, List.length_set, List.length_replicate, List.length_cons, List.length_nil, List.nil_append]; omega) ?_) | (refine And.intro (by kernel_rfl) ?_) | (refine stpQ ?_))
 refine z0l 0 ⟨[(6, .ptr 1 0 0), (7, .ptr 2 0 0)], [(1, some (.box [.int .i64 0, .int .i64 0, .bool false, .val nilV, .int .i64 0, .val nilV, .val nilV, .val nilV, .int .i64 0, .int .i64 0, .int .i64 0])), (2, some (.box [.int .i64 a, .int .i64 K, .bool true, .sl 3 [], .int .i64 0, .ref 3, .ref 4, .val nilV, .int .i64 0, .int .i64 0, .int .i64 0])), (3, some (.row 1 (vwE sv0.vs))), (4, some (.row 1 (ntE sv0.tk)))], 5⟩ Nat (fun i => ⟨[(6, .ptr 1 0 0), (7, .ptr 2 0 0), (8, .sl 1 []), (9, .int .i64 0)], [(1, some (.box [.int .i64 0, .int .i64 0, .bool false, .val nilV, .int .i64 0, .val nilV, .val nilV, .val nilV, .int .i64 0, .int .i64 0, .int .i64 0])), (2, some (.box [.int .i64 a, .int .i64 K, .bool true, .sl 3 [], .int .i64 0, .ref 3, .ref 4, .val nilV, .int .i64 0, .int .i64 0, .int .i64 0])), (3, some (.row 1 (vwE sv0.vs))), (4, some (.row 1 (ntE sv0.tk)))], 5⟩) (fun i => True) (fun i => 0) 0 trivial ?_ ?_ ?_
 ·(refine z02 (by rfl) ?_ ?_) <;> (repeat' (first | (exact eqA) | (refine And.intro ?_ ?_) | ((fail_if_success (with_reducible (show _ = _))); (show _ = _)))) <;> first | rfl | decide
 ·intro i hi
  repeat ((try conv => whnf); first | (with_reducible first | refine z0f (fun Qs hN hE hR => ?_) | refine z0d ?_ | refine z04 (fun Qb kN kE kX kR => ?_) | refine z06 ?_ | refine z07 ?_ | refine z0e ?_ | refine z08 ?_ | refine z09 ?_ | (show W _ _ _ (.cond _ _ _) _ _; refine z05 rfl ?_) | (refine hN _ ?_; try clear hN hE hR Qs; (try (conv => arg 6; dsimp only [ovl, List.set, List.map, ren0]))) | ((first | refine hE _ _ ?_ | refine hR _ ?_); try clear hN hE hR Qs) | ((first | refine kN _ ?_ | refine kE _ ?_ | refine kX _ _ rfl ?_ | refine kR _ ?_); try clear kN kE kX kR Qb)) | (refine Exists.intro 0 (And.intro rfl ?_)) | (refine z0c f0 ?_) | (refine And.intro (by kernel_rfl) ?_) | (refine stpQ ?_))
  (refine z02 (by rfl) ?_ ?_) <;> (repeat' (first | (exact eqA) | (refine And.intro ?_ ?_) | ((fail_if_success (with_reducible (show _ = _))); (show _ = _)))) <;> rfl
 ·repeat ((try conv => whnf); first | (with_reducible first | refine z0f (fun Qs hN hE hR => ?_) | refine z0d ?_ | refine z04 (fun Qb kN kE kX kR => ?_) | refine z06 ?_ | refine z07 ?_ | refine z0e ?_ | refine z08 ?_ | refine z09 ?_ | (show W _ _ _ (.cond _ _ _) _ _; refine z05 rfl ?_) | (refine hN _ ?_; try clear hN hE hR Qs; (try (conv => arg 6; dsimp only [ovl, List.set, List.map, ren0]))) | ((first | refine hE _ _ ?_ | refine hR _ ?_); try clear hN hE hR Qs) | ((first | refine kN _ ?_ | refine kE _ ?_ | refine kX _ _ rfl ?_ | refine kR _ ?_); try clear kN kE kX kR Qb)) | (refine And.intro (by kernel_rfl) ?_) | (refine stpQ ?_))
  (refine z00 (by rfl) ?_ ?_ (by rfl)) <;> (repeat' (first | (exact eqA) | (refine And.intro ?_ ?_) | ((fail_if_success (with_reducible (show _ = _))); (show _ = _)))) <;> first | rfl | decide
theorem rlT0 (Q : Pst) (c : Bs) (a K : Nat) (ts : List Bs) (tr k i : Nat) (h : Int) (hK : K ≤ 2) (ha : a < 2 ^ K) (hk : k ≤ 30) (htr : tr ≤ 60) {s : Sv} (g : LogOk (a : Int) (K : Int) k ts s) {x i1 : Nat} {h1 : Int} (kx : CT Tryz.prog 71 [curE c i h] [.ptr 1 0 0, .int .i64 22] (.int .i64 ((x : Nat) : Int)) [curE c i1 h1]) (hx : k < x) {i2 : Nat} {h2 : Int} (kd : CT Tryz.prog 71 [curE c i1 h1] [.ptr 1 0 0, .int .i64 7] (.int .i64 0) [curE c i2 h2]) {u : Ch} {i3 : Nat} {h3 : Int} (hu : z0g u.1 u.2.1 u.2.2 = true) (ku : CT Tryz.prog 100 [curE c i2 h2] [.ptr 1 0 0] (.agg (chL u)) [curE c i3 h3])
 (hQ0 : ∀ S1, LeP 2 S1 ⟨[(0, .ptr 1 0 0), (2, .ptr 2 0 0), (4, .int .i64 ((a : Nat) : Int)), (5, .ptr 3 0 0), (6, .int .i64 ((tr : Nat) : Int)), (7, .int .i64 ((k + 1 : Nat) : Int))], [(1, some (curE c i3 h3)), (2, some (.box [.int .i64 0, .int .i64 0, .bool false, .val nilV, .int .i64 0, .val nilV, .val nilV, .val nilV, .int .i64 0, .int .i64 0, .int .i64 0])), (3, some (.box [.int .i64 (a : Int), .int .i64 (K : Int), .bool true, .sl 3 (flE (dkOf shardN (tkT (a : Int) (K : Int) ts s u))), .int .i64 ((tkS (a : Int) (K : Int) s u).ep : Int), .ref 4, .ref 5, .ref 6, .int .i64 ((tkS (a : Int) (K : Int) s u).re : Int), .int .i64 ((tkS (a : Int) (K : Int) s u).rt : Int), .int .i64 ((tkS (a : Int) (K : Int) s u).rk : Int)])), (4, some (.row 1 (vwE (tkS (a : Int) (K : Int) s u).vs))), (5, some (.row 1 (ntE (tkS (a : Int) (K : Int) s u).tk))), (6, some (.row 3 (chE (tkS (a : Int) (K : Int) s u).al)))], 7⟩ → Q .normal S1) :
 W Tryz.prog ttA 2 z4u Q ⟨[(0, .ptr 1 0 0), (2, .ptr 2 0 0), (4, .int .i64 ((a : Nat) : Int)), (5, .ptr 3 0 0), (6, .int .i64 ((tr : Nat) : Int)), (7, .int .i64 ((k : Nat) : Int))], [(1, some (curE c i h)), (2, some (.box [.int .i64 0, .int .i64 0, .bool false, .val nilV, .int .i64 0, .val nilV, .val nilV, .val nilV, .int .i64 0, .int .i64 0, .int .i64 0])), (3, some (.box [.int .i64 (a : Int), .int .i64 (K : Int), .bool true, .sl 3 (flE (dkOf shardN ts)), .int .i64 ((s).ep : Int), .ref 4, .ref 5, .ref 6, .int .i64 ((s).re : Int), .int .i64 ((s).rt : Int), .int .i64 ((s).rk : Int)])), (4, some (.row 1 (vwE (s).vs))), (5, some (.row 1 (ntE (s).tk))), (6, some (.row 3 (chE (s).al)))], 7⟩ := by
 have f1 : ((k : Nat) : Int) < ((x : Nat) : Int) := by omega
 have cT := z82 (a : Int) (K : Int) ts s u g.ok (by omega) (g.rc.up (by omega)) hu (fun v hv => by have := (z0n (g.ok.vo v hv)).1; omega)
 have q0 : (0 : Int) = 0 := by decide
 have n1 : ¬ (0 : Int) = 1 := by decide
 have n2 : ¬ (0 : Int) = 2 := by decide
 have n3 : ¬ (0 : Int) = 3 := by decide
 have n4 : ¬ (0 : Int) = 4 := by decide
 have n5 : ¬ (0 : Int) = 5 := by decide
 have n6 : ¬ (0 : Int) = 6 := by decide
 unfold svE svR svRw at cT
 generalize tkT (a : Int) (K : Int) ts s u = ts2 at *
 generalize tkS (a : Int) (K : Int) s u = s2 at *
 generalize dkOf shardN ts2 = d2 at *
 generalize dkOf shardN ts = d0 at *
 clear g
 conv => arg 4; whnf
 repeat ((try conv => whnf); first | (with_reducible first | refine z0f (fun Qs hN hE hR => ?_) | refine z0d ?_ | refine z04 (fun Qb kN kE kX kR => ?_) | refine z06 ?_ | refine z07 ?_ | refine z0e ?_ | refine z08 ?_ | refine z09 ?_ | (show W _ _ _ (.cond _ _ _) _ _; refine z05 rfl ?_) | (refine hN _ ?_; try clear hN hE hR Qs; (try (conv => arg 6; dsimp only [ovl, List.set, List.map, ren0]))) | ((first | refine hE _ _ ?_ | refine hR _ ?_); try clear hN hE hR Qs) | ((first | refine kN _ ?_ | refine kE _ ?_ | refine kX _ _ rfl ?_ | refine kR _ ?_); try clear kN kE kX kR Qb)) | (refine ccB ([1]) (kx) ?_) | (refine z0h f1 ?_) | (refine ccB ([1]) (kd) ?_) | (refine z0h q0 ?_) | (refine z0c n1 ?_) | (refine z0c n2 ?_) | (refine z0c n3 ?_) | (refine z0c n4 ?_) | (refine z0c n5 ?_) | (refine z0c n6 ?_) | (refine ccB ([1]) (ku) ?_) | (refine z38 ([]) (cT) (by ((repeat' (first | (exact trivial) | (exact rfl) | (decide) | (refine And.intro ?_ ?_))); first | done | fail)) (by ((repeat' (first | (exact trivial) | (exact rfl) | (decide) | (refine And.intro ?_ ?_))); first | done | fail)) (by decide) (by rfl) (by first | exact .inl rfl | (refine .inr ⟨?_, ?_⟩ <;> simp [own2, own1, own0, ownE])) ?_) | (refine And.intro (by kernel_rfl) ?_) | (refine stpQ ?_))
 refine hQ0 _ ?_
 (refine z02 (by rfl) ?_ ?_) <;> (repeat' (first | (exact eqA) | (refine And.intro ?_ ?_) | ((fail_if_success (with_reducible (show _ = _))); (show _ = _)))) <;> rfl
theorem rlT1 (Q : Pst) (c : Bs) (a K : Nat) (ts : List Bs) (tr k i : Nat) (h : Int) (hK : K ≤ 2) (ha : a < 2 ^ K) (hk : k ≤ 30) (htr : tr ≤ 60) {s : Sv} (g : LogOk (a : Int) (K : Int) k ts s) {x i1 : Nat} {h1 : Int} (kx : CT Tryz.prog 71 [curE c i h] [.ptr 1 0 0, .int .i64 22] (.int .i64 ((x : Nat) : Int)) [curE c i1 h1]) (hx : k < x) {i2 : Nat} {h2 : Int} (kd : CT Tryz.prog 71 [curE c i1 h1] [.ptr 1 0 0, .int .i64 7] (.int .i64 1) [curE c i2 h2]) {u : Ch} {i3 : Nat} {h3 : Int} (hu : z0g u.1 u.2.1 u.2.2 = true) (ku : CT Tryz.prog 100 [curE c i2 h2] [.ptr 1 0 0] (.agg (chL u)) [curE c i3 h3])
 (hQ0 : ∀ S1, LeP 2 S1 ⟨[(0, .ptr 1 0 0), (2, .ptr 2 0 0), (4, .int .i64 ((a : Nat) : Int)), (5, .ptr 3 0 0), (6, .int .i64 ((tr : Nat) : Int)), (7, .int .i64 ((k + 1 : Nat) : Int))], [(1, some (curE c i3 h3)), (2, some (.box [.int .i64 0, .int .i64 0, .bool false, .val nilV, .int .i64 0, .val nilV, .val nilV, .val nilV, .int .i64 0, .int .i64 0, .int .i64 0])), (3, some (.box [.int .i64 (a : Int), .int .i64 (K : Int), .bool true, .sl 3 (flE (dkOf shardN (tkT (a : Int) (K : Int) ts s u))), .int .i64 ((tkS (a : Int) (K : Int) s u).ep : Int), .ref 4, .ref 5, .ref 6, .int .i64 ((tkS (a : Int) (K : Int) s u).re : Int), .int .i64 ((tkS (a : Int) (K : Int) s u).rt : Int), .int .i64 ((tkS (a : Int) (K : Int) s u).rk : Int)])), (4, some (.row 1 (vwE (tkS (a : Int) (K : Int) s u).vs))), (5, some (.row 1 (ntE (tkS (a : Int) (K : Int) s u).tk))), (6, some (.row 3 (chE (tkS (a : Int) (K : Int) s u).al)))], 7⟩ → Q .normal S1) :
 W Tryz.prog ttA 2 z4u Q ⟨[(0, .ptr 1 0 0), (2, .ptr 2 0 0), (4, .int .i64 ((a : Nat) : Int)), (5, .ptr 3 0 0), (6, .int .i64 ((tr : Nat) : Int)), (7, .int .i64 ((k : Nat) : Int))], [(1, some (curE c i h)), (2, some (.box [.int .i64 0, .int .i64 0, .bool false, .val nilV, .int .i64 0, .val nilV, .val nilV, .val nilV, .int .i64 0, .int .i64 0, .int .i64 0])), (3, some (.box [.int .i64 (a : Int), .int .i64 (K : Int), .bool true, .sl 3 (flE (dkOf shardN ts)), .int .i64 ((s).ep : Int), .ref 4, .ref 5, .ref 6, .int .i64 ((s).re : Int), .int .i64 ((s).rt : Int), .int .i64 ((s).rk : Int)])), (4, some (.row 1 (vwE (s).vs))), (5, some (.row 1 (ntE (s).tk))), (6, some (.row 3 (chE (s).al)))], 7⟩ := by
 have f1 : ((k : Nat) : Int) < ((x : Nat) : Int) := by omega
 have cT := z82 (a : Int) (K : Int) ts s u g.ok (by omega) (g.rc.up (by omega)) hu (fun v hv => by have := (z0n (g.ok.vo v hv)).1; omega)
 have q1 : (1 : Int) = 1 := by decide
 have n0 : ¬ (1 : Int) = 0 := by decide
 have n2 : ¬ (1 : Int) = 2 := by decide
 have n3 : ¬ (1 : Int) = 3 := by decide
 have n4 : ¬ (1 : Int) = 4 := by decide
 have n5 : ¬ (1 : Int) = 5 := by decide
 have n6 : ¬ (1 : Int) = 6 := by decide
 unfold svE svR svRw at cT
 generalize tkT (a : Int) (K : Int) ts s u = ts2 at *
 generalize tkS (a : Int) (K : Int) s u = s2 at *
 generalize dkOf shardN ts2 = d2 at *
 generalize dkOf shardN ts = d0 at *
 clear g
 conv => arg 4; whnf
 repeat ((try conv => whnf); first | (with_reducible first | refine z0f (fun Qs hN hE hR => ?_) | refine z0d ?_ | refine z04 (fun Qb kN kE kX kR => ?_) | refine z06 ?_ | refine z07 ?_ | refine z0e ?_ | refine z08 ?_ | refine z09 ?_ | (show W _ _ _ (.cond _ _ _) _ _; refine z05 rfl ?_) | (refine hN _ ?_; try clear hN hE hR Qs; (try (conv => arg 6; dsimp only [ovl, List.set, List.map, ren0]))) | ((first | refine hE _ _ ?_ | refine hR _ ?_); try clear hN hE hR Qs) | ((first | refine kN _ ?_ | refine kE _ ?_ | refine kX _ _ rfl ?_ | refine kR _ ?_); try clear kN kE kX kR Qb)) | (refine ccB ([1]) (kx) ?_) | (refine z0h f1 ?_) | (refine ccB ([1]) (kd) ?_) | (refine z0h q1 ?_) | (refine z0c n0 ?_) | (refine z0c n2 ?_) | (refine z0c n3 ?_) | (refine z0c n4 ?_) | (refine z0c n5 ?_) | (refine z0c n6 ?_) | (refine ccB ([1]) (ku) ?_) | (refine z38 ([]) (cT) (by ((repeat' (first | (exact trivial) | (exact rfl) | (decide) | (refine And.intro ?_ ?_))); first | done | fail)) (by ((repeat' (first | (exact trivial) | (exact rfl) | (decide) | (refine And.intro ?_ ?_))); first | done | fail)) (by decide) (by rfl) (by first | exact .inl rfl | (refine .inr ⟨?_, ?_⟩ <;> simp [own2, own1, own0, ownE])) ?_) | (refine And.intro (by kernel_rfl) ?_) | (refine stpQ ?_))
 refine hQ0 _ ?_
 (refine z02 (by rfl) ?_ ?_) <;> (repeat' (first | (exact eqA) | (refine And.intro ?_ ?_) | ((fail_if_success (with_reducible (show _ = _))); (show _ = _)))) <;> rfl
theorem rlT2 (Q : Pst) (c : Bs) (a K : Nat) (ts : List Bs) (tr k i : Nat) (h : Int) (hK : K ≤ 2) (ha : a < 2 ^ K) (hk : k ≤ 30) (htr : tr ≤ 60) {s : Sv} (g : LogOk (a : Int) (K : Int) k ts s) {x i1 : Nat} {h1 : Int} (kx : CT Tryz.prog 71 [curE c i h] [.ptr 1 0 0, .int .i64 22] (.int .i64 ((x : Nat) : Int)) [curE c i1 h1]) (hx : k < x) {i2 : Nat} {h2 : Int} (kd : CT Tryz.prog 71 [curE c i1 h1] [.ptr 1 0 0, .int .i64 7] (.int .i64 2) [curE c i2 h2]) {u : Ch} {i3 : Nat} {h3 : Int} (hu : z0g u.1 u.2.1 u.2.2 = true) (ku : CT Tryz.prog 100 [curE c i2 h2] [.ptr 1 0 0] (.agg (chL u)) [curE c i3 h3])
 (hQ0 : ∀ S1, LeP 2 S1 ⟨[(0, .ptr 1 0 0), (2, .ptr 2 0 0), (4, .int .i64 ((a : Nat) : Int)), (5, .ptr 3 0 0), (6, .int .i64 ((tr : Nat) : Int)), (7, .int .i64 ((k + 1 : Nat) : Int))], [(1, some (curE c i3 h3)), (2, some (.box [.int .i64 0, .int .i64 0, .bool false, .val nilV, .int .i64 0, .val nilV, .val nilV, .val nilV, .int .i64 0, .int .i64 0, .int .i64 0])), (3, some (.box [.int .i64 (a : Int), .int .i64 (K : Int), .bool true, .sl 3 (flE (dkOf shardN (tkT (a : Int) (K : Int) ts s u))), .int .i64 ((tkS (a : Int) (K : Int) s u).ep : Int), .ref 4, .ref 5, .ref 6, .int .i64 ((tkS (a : Int) (K : Int) s u).re : Int), .int .i64 ((tkS (a : Int) (K : Int) s u).rt : Int), .int .i64 ((tkS (a : Int) (K : Int) s u).rk : Int)])), (4, some (.row 1 (vwE (tkS (a : Int) (K : Int) s u).vs))), (5, some (.row 1 (ntE (tkS (a : Int) (K : Int) s u).tk))), (6, some (.row 3 (chE (tkS (a : Int) (K : Int) s u).al)))], 7⟩ → Q .normal S1) :
 W Tryz.prog ttA 2 z4u Q ⟨[(0, .ptr 1 0 0), (2, .ptr 2 0 0), (4, .int .i64 ((a : Nat) : Int)), (5, .ptr 3 0 0), (6, .int .i64 ((tr : Nat) : Int)), (7, .int .i64 ((k : Nat) : Int))], [(1, some (curE c i h)), (2, some (.box [.int .i64 0, .int .i64 0, .bool false, .val nilV, .int .i64 0, .val nilV, .val nilV, .val nilV, .int .i64 0, .int .i64 0, .int .i64 0])), (3, some (.box [.int .i64 (a : Int), .int .i64 (K : Int), .bool true, .sl 3 (flE (dkOf shardN ts)), .int .i64 ((s).ep : Int), .ref 4, .ref 5, .ref 6, .int .i64 ((s).re : Int), .int .i64 ((s).rt : Int), .int .i64 ((s).rk : Int)])), (4, some (.row 1 (vwE (s).vs))), (5, some (.row 1 (ntE (s).tk))), (6, some (.row 3 (chE (s).al)))], 7⟩ := by
 have f1 : ((k : Nat) : Int) < ((x : Nat) : Int) := by omega
 have cT := z82 (a : Int) (K : Int) ts s u g.ok (by omega) (g.rc.up (by omega)) hu (fun v hv => by have := (z0n (g.ok.vo v hv)).1; omega)
 have q2 : (2 : Int) = 2 := by decide
 have n0 : ¬ (2 : Int) = 0 := by decide
 have n1 : ¬ (2 : Int) = 1 := by decide
 have n3 : ¬ (2 : Int) = 3 := by decide
 have n4 : ¬ (2 : Int) = 4 := by decide
 have n5 : ¬ (2 : Int) = 5 := by decide
 have n6 : ¬ (2 : Int) = 6 := by decide
 unfold svE svR svRw at cT
 generalize tkT (a : Int) (K : Int) ts s u = ts2 at *
 generalize tkS (a : Int) (K : Int) s u = s2 at *
 generalize dkOf shardN ts2 = d2 at *
 generalize dkOf shardN ts = d0 at *
 clear g
 conv => arg 4; whnf
 repeat ((try conv => whnf); first | (with_reducible first | refine z0f (fun Qs hN hE hR => ?_) | refine z0d ?_ | refine z04 (fun Qb kN kE kX kR => ?_) | refine z06 ?_ | refine z07 ?_ | refine z0e ?_ | refine z08 ?_ | refine z09 ?_ | (show W _ _ _ (.cond _ _ _) _ _; refine z05 rfl ?_) | (refine hN _ ?_; try clear hN hE hR Qs; (try (conv => arg 6; dsimp only [ovl, List.set, List.map, ren0]))) | ((first | refine hE _ _ ?_ | refine hR _ ?_); try clear hN hE hR Qs) | ((first | refine kN _ ?_ | refine kE _ ?_ | refine kX _ _ rfl ?_ | refine kR _ ?_); try clear kN kE kX kR Qb)) | (refine ccB ([1]) (kx) ?_) | (refine z0h f1 ?_) | (refine ccB ([1]) (kd) ?_) | (refine z0h q2 ?_) | (refine z0c n0 ?_) | (refine z0c n1 ?_) | (refine z0c n3 ?_) | (refine z0c n4 ?_) | (refine z0c n5 ?_) | (refine z0c n6 ?_) | (refine ccB ([1]) (ku) ?_) | (refine z38 ([]) (cT) (by ((repeat' (first | (exact trivial) | (exact rfl) | (decide) | (refine And.intro ?_ ?_))); first | done | fail)) (by ((repeat' (first | (exact trivial) | (exact rfl) | (decide) | (refine And.intro ?_ ?_))); first | done | fail)) (by decide) (by rfl) (by first | exact .inl rfl | (refine .inr ⟨?_, ?_⟩ <;> simp [own2, own1, own0, ownE])) ?_) | (refine And.intro (by kernel_rfl) ?_) | (refine stpQ ?_))
 refine hQ0 _ ?_
 (refine z02 (by rfl) ?_ ?_) <;> (repeat' (first | (exact eqA) | (refine And.intro ?_ ?_) | ((fail_if_success (with_reducible (show _ = _))); (show _ = _)))) <;> rfl
end
end Go.Proofs.YtfjbinbpgdiafaaGreatDoor
namespace Go.Proofs.YtfjbinbpgdiafaaGreatDoor
set_option maxRecDepth 100000
set_option maxHeartbeats 8000000
set_option linter.unusedVariables false
set_option linter.unusedSimpArgs false
set_option linter.unusedSectionVars false
open Go.RowKit Pl
section
attribute [local irreducible] z0r z0s z0z AnsP LeP W CvE z0A
theorem rlP3 (Q : Pst) (c : Bs) (a K : Nat) (ts : List Bs) (tr k i : Nat) (h : Int) (hK : K ≤ 2) (ha : a < 2 ^ K) (hk : k ≤ 30) (htr : tr ≤ 60) {s : Sv} (g : LogOk (a : Int) (K : Int) k ts s) {x i1 : Nat} {h1 : Int} (kx : CT Tryz.prog 71 [curE c i h] [.ptr 1 0 0, .int .i64 22] (.int .i64 ((x : Nat) : Int)) [curE c i1 h1]) (hx : k < x) {i2 : Nat} {h2 : Int} (kd : CT Tryz.prog 71 [curE c i1 h1] [.ptr 1 0 0, .int .i64 7] (.int .i64 3) [curE c i2 h2]) {b i3 : Nat} {h3 : Int} (hb : b < 2) (kb : CT Tryz.prog 71 [curE c i2 h2] [.ptr 1 0 0, .int .i64 2] (.int .i64 ((b : Nat) : Int)) [curE c i3 h3]) {z : Hr} (hz : z3w (a : Int) s (z0a 1 0 ((a + 1 : Nat) : Int) ((s.ep + 1 : Nat) : Int) ((tr + b + 1 : Nat) : Int) []) 1 ((a + 1 : Nat) : Int) ((s.ep + 1 : Nat) : Int) ((tr + b + 1 : Nat) : Int) = z) (hc : z ≠ .com)
 (hQ0 : ∀ S1, LeP 2 S1 ⟨[(0, .ptr 1 0 0), (2, .ptr 2 0 0), (4, .int .i64 ((a : Nat) : Int)), (5, .ptr 3 0 0), (6, .int .i64 ((tr + b : Nat) : Int)), (7, .int .i64 ((k + 1 : Nat) : Int))], [(1, some (curE c i3 h3)), (2, some (.box [.int .i64 0, .int .i64 0, .bool false, .val nilV, .int .i64 0, .val nilV, .val nilV, .val nilV, .int .i64 0, .int .i64 0, .int .i64 0])), (3, some (.box [.int .i64 (a : Int), .int .i64 (K : Int), .bool true, .sl 3 (flE (dkOf shardN (ts ++ z2S s ((s.ep + 1 : Nat) : Int) ((tr + b + 1 : Nat) : Int) z))), .int .i64 ((z0L s ((s.ep + 1 : Nat) : Int) ((tr + b + 1 : Nat) : Int) z).ep : Int), .ref 4, .ref 5, .ref 6, .int .i64 ((z0L s ((s.ep + 1 : Nat) : Int) ((tr + b + 1 : Nat) : Int) z).re : Int), .int .i64 ((z0L s ((s.ep + 1 : Nat) : Int) ((tr + b + 1 : Nat) : Int) z).rt : Int), .int .i64 ((z0L s ((s.ep + 1 : Nat) : Int) ((tr + b + 1 : Nat) : Int) z).rk : Int)])), (4, some (.row 1 (vwE (z0L s ((s.ep + 1 : Nat) : Int) ((tr + b + 1 : Nat) : Int) z).vs))), (5, some (.row 1 (ntE (z0L s ((s.ep + 1 : Nat) : Int) ((tr + b + 1 : Nat) : Int) z).tk))), (6, some (.row 3 (chE (z0L s ((s.ep + 1 : Nat) : Int) ((tr + b + 1 : Nat) : Int) z).al)))], 7⟩ → Q .normal S1) :
 W Tryz.prog ttA 2 z4u Q ⟨[(0, .ptr 1 0 0), (2, .ptr 2 0 0), (4, .int .i64 ((a : Nat) : Int)), (5, .ptr 3 0 0), (6, .int .i64 ((tr : Nat) : Int)), (7, .int .i64 ((k : Nat) : Int))], [(1, some (curE c i h)), (2, some (.box [.int .i64 0, .int .i64 0, .bool false, .val nilV, .int .i64 0, .val nilV, .val nilV, .val nilV, .int .i64 0, .int .i64 0, .int .i64 0])), (3, some (.box [.int .i64 (a : Int), .int .i64 (K : Int), .bool true, .sl 3 (flE (dkOf shardN ts)), .int .i64 ((s).ep : Int), .ref 4, .ref 5, .ref 6, .int .i64 ((s).re : Int), .int .i64 ((s).rt : Int), .int .i64 ((s).rk : Int)])), (4, some (.row 1 (vwE (s).vs))), (5, some (.row 1 (ntE (s).tk))), (6, some (.row 3 (chE (s).al)))], 7⟩ := by
 have f1 : ((k : Nat) : Int) < ((x : Nat) : Int) := by omega
 have g1 := g.ok.ep
 have g2 := g.ok.rt
 have hp : (2 : Nat) ^ K ≤ 4 := by rcases (show K = 0 ∨ K = 1 ∨ K = 2 by omega) with h | h | h <;> subst h <;> decide
 have cH := z5j a K (vwE s.vs) g (by omega) hK ha 1 0 ((a + 1 : Nat) : Int) ((s.ep + 1 : Nat) : Int) ((tr + b + 1 : Nat) : Int) [] hz hc
 have eV : ∀ (e y : Int), (z0L s e y z).vs = s.vs ∧ (z0L s e y z).tk = s.tk ∧ (z0L s e y z).al = s.al := fun e y => by cases z <;> first | exact absurd rfl hc | exact ⟨rfl, rfl, rfl⟩
 have eV1 := eV ((s.ep + 1 : Nat) : Int) ((tr + b + 1 : Nat) : Int)
 rw [z0y, z0y] at cH
 simp only [List.cons_append, List.nil_append] at cH
 generalize zal a K s _ _ z = HL at cH
 generalize dkOf shardN (ts ++ z2S s ((s.ep + 1 : Nat) : Int) ((tr + b + 1 : Nat) : Int) z) = d2 at *
 generalize dkOf shardN ts = d0 at *
 generalize z0L s ((s.ep + 1 : Nat) : Int) ((tr + b + 1 : Nat) : Int) z = s2 at *
 obtain ⟨v1, v2, v3⟩ := eV1
 rw [v2, v3] at cH
 rw [v1, v2, v3] at hQ0
 clear g hz eV v1 v2 v3
 have q3 : (3 : Int) = 3 := by decide
 have n0 : ¬ (3 : Int) = 0 := by decide
 have n1 : ¬ (3 : Int) = 1 := by decide
 have n2 : ¬ (3 : Int) = 2 := by decide
 have n4 : ¬ (3 : Int) = 4 := by decide
 have n5 : ¬ (3 : Int) = 5 := by decide
 have n6 : ¬ (3 : Int) = 6 := by decide
 unfold ltL at cH
 conv => arg 4; whnf
 repeat ((try conv => whnf); first | (with_reducible first | refine z0f (fun Qs hN hE hR => ?_) | refine z0d ?_ | refine z04 (fun Qb kN kE kX kR => ?_) | refine z06 ?_ | refine z07 ?_ | refine z0e ?_ | refine z08 ?_ | refine z09 ?_ | (show W _ _ _ (.cond _ _ _) _ _; refine z05 rfl ?_) | (refine hN _ ?_; try clear hN hE hR Qs; (try (conv => arg 6; dsimp only [ovl, List.set, List.map, ren0]))) | ((first | refine hE _ _ ?_ | refine hR _ ?_); try clear hN hE hR Qs) | ((first | refine kN _ ?_ | refine kE _ ?_ | refine kX _ _ rfl ?_ | refine kR _ ?_); try clear kN kE kX kR Qb)) | (refine ccB ([1]) (kx) ?_) | (refine z0h f1 ?_) | (refine ccB ([1]) (kd) ?_) | (refine z0h q3 ?_) | (refine z0c n0 ?_) | (refine z0c n1 ?_) | (refine z0c n2 ?_) | (refine z0c n4 ?_) | (refine z0c n5 ?_) | (refine z0c n6 ?_) | (refine ccB ([1]) (kb) ?_) | (refine ccB ([3, 4, 5, 6]) (cH) ?_) | (refine And.intro (by kernel_rfl) ?_) | (refine stpQ ?_))
 refine hQ0 _ ?_
 (refine z02 (by rfl) ?_ ?_) <;> (repeat' (first | (exact eqA) | (refine And.intro ?_ ?_) | ((fail_if_success (with_reducible (show _ = _))); (show _ = _)))) <;> first | rfl | omega
theorem rlP4 (Q : Pst) (c : Bs) (a K : Nat) (ts : List Bs) (tr k i : Nat) (h : Int) (hK : K ≤ 2) (ha : a < 2 ^ K) (hk : k ≤ 30) (htr : tr ≤ 60) {s : Sv} (g : LogOk (a : Int) (K : Int) k ts s) {x i1 : Nat} {h1 : Int} (kx : CT Tryz.prog 71 [curE c i h] [.ptr 1 0 0, .int .i64 22] (.int .i64 ((x : Nat) : Int)) [curE c i1 h1]) (hx : k < x) {i2 : Nat} {h2 : Int} (kd : CT Tryz.prog 71 [curE c i1 h1] [.ptr 1 0 0, .int .i64 7] (.int .i64 4) [curE c i2 h2]) {b i3 : Nat} {h3 : Int} (hb : b < 2) (kb : CT Tryz.prog 71 [curE c i2 h2] [.ptr 1 0 0, .int .i64 2] (.int .i64 ((b : Nat) : Int)) [curE c i3 h3]) {z : Hr} (hz : z3w (a : Int) s (z0a 1 0 ((a + 1 : Nat) : Int) ((s.ep + 1 : Nat) : Int) ((tr + b + 1 : Nat) : Int) []) 1 ((a + 1 : Nat) : Int) ((s.ep + 1 : Nat) : Int) ((tr + b + 1 : Nat) : Int) = z) (hc : z ≠ .com)
 (hQ0 : ∀ S1, LeP 2 S1 ⟨[(0, .ptr 1 0 0), (2, .ptr 2 0 0), (4, .int .i64 ((a : Nat) : Int)), (5, .ptr 3 0 0), (6, .int .i64 ((tr + b : Nat) : Int)), (7, .int .i64 ((k + 1 : Nat) : Int))], [(1, some (curE c i3 h3)), (2, some (.box [.int .i64 0, .int .i64 0, .bool false, .val nilV, .int .i64 0, .val nilV, .val nilV, .val nilV, .int .i64 0, .int .i64 0, .int .i64 0])), (3, some (.box [.int .i64 (a : Int), .int .i64 (K : Int), .bool true, .sl 3 (flE (dkOf shardN (ts ++ z2S s ((s.ep + 1 : Nat) : Int) ((tr + b + 1 : Nat) : Int) z))), .int .i64 ((z0L s ((s.ep + 1 : Nat) : Int) ((tr + b + 1 : Nat) : Int) z).ep : Int), .ref 4, .ref 5, .ref 6, .int .i64 ((z0L s ((s.ep + 1 : Nat) : Int) ((tr + b + 1 : Nat) : Int) z).re : Int), .int .i64 ((z0L s ((s.ep + 1 : Nat) : Int) ((tr + b + 1 : Nat) : Int) z).rt : Int), .int .i64 ((z0L s ((s.ep + 1 : Nat) : Int) ((tr + b + 1 : Nat) : Int) z).rk : Int)])), (4, some (.row 1 (vwE (z0L s ((s.ep + 1 : Nat) : Int) ((tr + b + 1 : Nat) : Int) z).vs))), (5, some (.row 1 (ntE (z0L s ((s.ep + 1 : Nat) : Int) ((tr + b + 1 : Nat) : Int) z).tk))), (6, some (.row 3 (chE (z0L s ((s.ep + 1 : Nat) : Int) ((tr + b + 1 : Nat) : Int) z).al)))], 7⟩ → Q .normal S1) :
 W Tryz.prog ttA 2 z4u Q ⟨[(0, .ptr 1 0 0), (2, .ptr 2 0 0), (4, .int .i64 ((a : Nat) : Int)), (5, .ptr 3 0 0), (6, .int .i64 ((tr : Nat) : Int)), (7, .int .i64 ((k : Nat) : Int))], [(1, some (curE c i h)), (2, some (.box [.int .i64 0, .int .i64 0, .bool false, .val nilV, .int .i64 0, .val nilV, .val nilV, .val nilV, .int .i64 0, .int .i64 0, .int .i64 0])), (3, some (.box [.int .i64 (a : Int), .int .i64 (K : Int), .bool true, .sl 3 (flE (dkOf shardN ts)), .int .i64 ((s).ep : Int), .ref 4, .ref 5, .ref 6, .int .i64 ((s).re : Int), .int .i64 ((s).rt : Int), .int .i64 ((s).rk : Int)])), (4, some (.row 1 (vwE (s).vs))), (5, some (.row 1 (ntE (s).tk))), (6, some (.row 3 (chE (s).al)))], 7⟩ := by
 have f1 : ((k : Nat) : Int) < ((x : Nat) : Int) := by omega
 have g1 := g.ok.ep
 have g2 := g.ok.rt
 have hp : (2 : Nat) ^ K ≤ 4 := by rcases (show K = 0 ∨ K = 1 ∨ K = 2 by omega) with h | h | h <;> subst h <;> decide
 have cH := z5j a K (vwE s.vs) g (by omega) hK ha 1 0 ((a + 1 : Nat) : Int) ((s.ep + 1 : Nat) : Int) ((tr + b + 1 : Nat) : Int) [] hz hc
 have eV : ∀ (e y : Int), (z0L s e y z).vs = s.vs ∧ (z0L s e y z).tk = s.tk ∧ (z0L s e y z).al = s.al := fun e y => by cases z <;> first | exact absurd rfl hc | exact ⟨rfl, rfl, rfl⟩
 have eV1 := eV ((s.ep + 1 : Nat) : Int) ((tr + b + 1 : Nat) : Int)
 rw [z0y, z0y] at cH
 simp only [List.cons_append, List.nil_append] at cH
 generalize zal a K s _ _ z = HL at cH
 generalize dkOf shardN (ts ++ z2S s ((s.ep + 1 : Nat) : Int) ((tr + b + 1 : Nat) : Int) z) = d2 at *
 generalize dkOf shardN ts = d0 at *
 generalize z0L s ((s.ep + 1 : Nat) : Int) ((tr + b + 1 : Nat) : Int) z = s2 at *
 obtain ⟨v1, v2, v3⟩ := eV1
 rw [v2, v3] at cH
 rw [v1, v2, v3] at hQ0
 clear g hz eV v1 v2 v3
 have q4 : (4 : Int) = 4 := by decide
 have n0 : ¬ (4 : Int) = 0 := by decide
 have n1 : ¬ (4 : Int) = 1 := by decide
 have n2 : ¬ (4 : Int) = 2 := by decide
 have n3 : ¬ (4 : Int) = 3 := by decide
 have n5 : ¬ (4 : Int) = 5 := by decide
 have n6 : ¬ (4 : Int) = 6 := by decide
 unfold ltL at cH
 conv => arg 4; whnf
 repeat ((try conv => whnf); first | (with_reducible first | refine z0f (fun Qs hN hE hR => ?_) | refine z0d ?_ | refine z04 (fun Qb kN kE kX kR => ?_) | refine z06 ?_ | refine z07 ?_ | refine z0e ?_ | refine z08 ?_ | refine z09 ?_ | (show W _ _ _ (.cond _ _ _) _ _; refine z05 rfl ?_) | (refine hN _ ?_; try clear hN hE hR Qs; (try (conv => arg 6; dsimp only [ovl, List.set, List.map, ren0]))) | ((first | refine hE _ _ ?_ | refine hR _ ?_); try clear hN hE hR Qs) | ((first | refine kN _ ?_ | refine kE _ ?_ | refine kX _ _ rfl ?_ | refine kR _ ?_); try clear kN kE kX kR Qb)) | (refine ccB ([1]) (kx) ?_) | (refine z0h f1 ?_) | (refine ccB ([1]) (kd) ?_) | (refine z0h q4 ?_) | (refine z0c n0 ?_) | (refine z0c n1 ?_) | (refine z0c n2 ?_) | (refine z0c n3 ?_) | (refine z0c n5 ?_) | (refine z0c n6 ?_) | (refine ccB ([1]) (kb) ?_) | (refine ccB ([3, 4, 5, 6]) (cH) ?_) | (refine And.intro (by kernel_rfl) ?_) | (refine stpQ ?_))
 refine hQ0 _ ?_
 (refine z02 (by rfl) ?_ ?_) <;> (repeat' (first | (exact eqA) | (refine And.intro ?_ ?_) | ((fail_if_success (with_reducible (show _ = _))); (show _ = _)))) <;> first | rfl | omega
end
end Go.Proofs.YtfjbinbpgdiafaaGreatDoor
namespace Go.Proofs.YtfjbinbpgdiafaaGreatDoor
set_option maxRecDepth 100000
set_option maxHeartbeats 8000000
set_option linter.unusedVariables false
set_option linter.unusedSimpArgs false
set_option linter.unusedSectionVars false
open Go.RowKit Pl
section
attribute [local irreducible] z0r z0s z0z AnsP LeP W CvE z0A
theorem rlC5 (Q : Pst) (c : Bs) (a K : Nat) (ts : List Bs) (tr k i : Nat) (h : Int) (hK : K ≤ 2) (ha : a < 2 ^ K) (hk : k ≤ 30) (htr : tr ≤ 60) {s : Sv} (g : LogOk (a : Int) (K : Int) k ts s) {x i1 : Nat} {h1 : Int} (kx : CT Tryz.prog 71 [curE c i h] [.ptr 1 0 0, .int .i64 22] (.int .i64 ((x : Nat) : Int)) [curE c i1 h1]) (hx : k < x) {i2 : Nat} {h2 : Int} (kd : CT Tryz.prog 71 [curE c i1 h1] [.ptr 1 0 0, .int .i64 7] (.int .i64 5) [curE c i2 h2]) {z : Hr} (hz : z3w (a : Int) s (z0a 4 0 ((a + 1 : Nat) : Int) ((s.ep + 1 : Nat) : Int) (s.rt : Int) []) 4 ((a + 1 : Nat) : Int) ((s.ep + 1 : Nat) : Int) (s.rt : Int) = z) (hc : z ≠ .com)
 (hQ0 : ∀ S1, LeP 2 S1 ⟨[(0, .ptr 1 0 0), (2, .ptr 2 0 0), (4, .int .i64 ((a : Nat) : Int)), (5, .ptr 3 0 0), (6, .int .i64 ((tr : Nat) : Int)), (7, .int .i64 ((k + 1 : Nat) : Int))], [(1, some (curE c i2 h2)), (2, some (.box [.int .i64 0, .int .i64 0, .bool false, .val nilV, .int .i64 0, .val nilV, .val nilV, .val nilV, .int .i64 0, .int .i64 0, .int .i64 0])), (3, some (.box [.int .i64 (a : Int), .int .i64 (K : Int), .bool true, .sl 3 (flE (dkOf shardN (ts ++ z2S s ((s.ep + 1 : Nat) : Int) (s.rt : Int) z))), .int .i64 ((z0L s ((s.ep + 1 : Nat) : Int) (s.rt : Int) z).ep : Int), .ref 4, .ref 5, .ref 6, .int .i64 ((z0L s ((s.ep + 1 : Nat) : Int) (s.rt : Int) z).re : Int), .int .i64 ((z0L s ((s.ep + 1 : Nat) : Int) (s.rt : Int) z).rt : Int), .int .i64 ((z0L s ((s.ep + 1 : Nat) : Int) (s.rt : Int) z).rk : Int)])), (4, some (.row 1 (vwE (z0L s ((s.ep + 1 : Nat) : Int) (s.rt : Int) z).vs))), (5, some (.row 1 (ntE (z0L s ((s.ep + 1 : Nat) : Int) (s.rt : Int) z).tk))), (6, some (.row 3 (chE (z0L s ((s.ep + 1 : Nat) : Int) (s.rt : Int) z).al)))], 7⟩ → Q .normal S1) :
 W Tryz.prog ttA 2 z4u Q ⟨[(0, .ptr 1 0 0), (2, .ptr 2 0 0), (4, .int .i64 ((a : Nat) : Int)), (5, .ptr 3 0 0), (6, .int .i64 ((tr : Nat) : Int)), (7, .int .i64 ((k : Nat) : Int))], [(1, some (curE c i h)), (2, some (.box [.int .i64 0, .int .i64 0, .bool false, .val nilV, .int .i64 0, .val nilV, .val nilV, .val nilV, .int .i64 0, .int .i64 0, .int .i64 0])), (3, some (.box [.int .i64 (a : Int), .int .i64 (K : Int), .bool true, .sl 3 (flE (dkOf shardN ts)), .int .i64 ((s).ep : Int), .ref 4, .ref 5, .ref 6, .int .i64 ((s).re : Int), .int .i64 ((s).rt : Int), .int .i64 ((s).rk : Int)])), (4, some (.row 1 (vwE (s).vs))), (5, some (.row 1 (ntE (s).tk))), (6, some (.row 3 (chE (s).al)))], 7⟩ := by
 have f1 : ((k : Nat) : Int) < ((x : Nat) : Int) := by omega
 have g1 := g.ok.ep
 have g2 := g.ok.rt
 have hp : (2 : Nat) ^ K ≤ 4 := by rcases (show K = 0 ∨ K = 1 ∨ K = 2 by omega) with h | h | h <;> subst h <;> decide
 have cH := z5j a K (vwE s.vs) g (by omega) hK ha 4 0 ((a + 1 : Nat) : Int) ((s.ep + 1 : Nat) : Int) (s.rt : Int) [] hz hc
 have eV : ∀ (e y : Int), (z0L s e y z).vs = s.vs ∧ (z0L s e y z).tk = s.tk ∧ (z0L s e y z).al = s.al := fun e y => by cases z <;> first | exact absurd rfl hc | exact ⟨rfl, rfl, rfl⟩
 have eV1 := eV ((s.ep + 1 : Nat) : Int) (s.rt : Int)
 rw [z0y, z0y] at cH
 simp only [List.cons_append, List.nil_append] at cH
 generalize zal a K s _ _ z = HL at cH
 generalize dkOf shardN (ts ++ z2S s ((s.ep + 1 : Nat) : Int) (s.rt : Int) z) = d2 at *
 generalize dkOf shardN ts = d0 at *
 generalize z0L s ((s.ep + 1 : Nat) : Int) (s.rt : Int) z = s2 at *
 obtain ⟨v1, v2, v3⟩ := eV1
 rw [v2, v3] at cH
 rw [v1, v2, v3] at hQ0
 clear g hz eV v1 v2 v3
 have q5 : (5 : Int) = 5 := by decide
 have n0 : ¬ (5 : Int) = 0 := by decide
 have n1 : ¬ (5 : Int) = 1 := by decide
 have n2 : ¬ (5 : Int) = 2 := by decide
 have n3 : ¬ (5 : Int) = 3 := by decide
 have n4 : ¬ (5 : Int) = 4 := by decide
 have n6 : ¬ (5 : Int) = 6 := by decide
 unfold ltL at cH
 conv => arg 4; whnf
 repeat ((try conv => whnf); first | (with_reducible first | refine z0f (fun Qs hN hE hR => ?_) | refine z0d ?_ | refine z04 (fun Qb kN kE kX kR => ?_) | refine z06 ?_ | refine z07 ?_ | refine z0e ?_ | refine z08 ?_ | refine z09 ?_ | (show W _ _ _ (.cond _ _ _) _ _; refine z05 rfl ?_) | (refine hN _ ?_; try clear hN hE hR Qs; (try (conv => arg 6; dsimp only [ovl, List.set, List.map, ren0]))) | ((first | refine hE _ _ ?_ | refine hR _ ?_); try clear hN hE hR Qs) | ((first | refine kN _ ?_ | refine kE _ ?_ | refine kX _ _ rfl ?_ | refine kR _ ?_); try clear kN kE kX kR Qb)) | (refine ccB ([1]) (kx) ?_) | (refine z0h f1 ?_) | (refine ccB ([1]) (kd) ?_) | (refine z0h q5 ?_) | (refine z0c n0 ?_) | (refine z0c n1 ?_) | (refine z0c n2 ?_) | (refine z0c n3 ?_) | (refine z0c n4 ?_) | (refine z0c n6 ?_) | (refine ccB ([3, 4, 5, 6]) (cH) ?_) | (refine And.intro (by kernel_rfl) ?_) | (refine stpQ ?_))
 refine hQ0 _ ?_
 (refine z02 (by rfl) ?_ ?_) <;> (repeat' (first | (exact eqA) | (refine And.intro ?_ ?_) | ((fail_if_success (with_reducible (show _ = _))); (show _ = _)))) <;> first | rfl | omega
theorem rlC5c (Q : Pst) (c : Bs) (a K : Nat) (ts : List Bs) (tr k i : Nat) (h : Int) (hK : K ≤ 2) (ha : a < 2 ^ K) (hk : k ≤ 30) (htr : tr ≤ 60) {s : Sv} (g : LogOk (a : Int) (K : Int) k ts s) {x i1 : Nat} {h1 : Int} (kx : CT Tryz.prog 71 [curE c i h] [.ptr 1 0 0, .int .i64 22] (.int .i64 ((x : Nat) : Int)) [curE c i1 h1]) (hx : k < x) {i2 : Nat} {h2 : Int} (kd : CT Tryz.prog 71 [curE c i1 h1] [.ptr 1 0 0, .int .i64 7] (.int .i64 5) [curE c i2 h2]) (hz : z3w (a : Int) s (z0a 4 0 ((a + 1 : Nat) : Int) ((s.ep + 1 : Nat) : Int) (s.rt : Int) []) 4 ((a + 1 : Nat) : Int) ((s.ep + 1 : Nat) : Int) (s.rt : Int) = .com)
 (hQ0 : ∀ S1, LeP 2 S1 ⟨[(0, .ptr 1 0 0), (2, .ptr 2 0 0), (4, .int .i64 ((a : Nat) : Int)), (5, .ptr 3 0 0), (6, .int .i64 ((tr : Nat) : Int)), (7, .int .i64 ((k + 1 : Nat) : Int))], [(1, some (curE c i2 h2)), (2, some (.box [.int .i64 0, .int .i64 0, .bool false, .val nilV, .int .i64 0, .val nilV, .val nilV, .val nilV, .int .i64 0, .int .i64 0, .int .i64 0])), (3, some (.box [.int .i64 (a : Int), .int .i64 (K : Int), .bool true, .sl 3 (flE (dkOf shardN (ts ++ z2S s ((s.ep + 1 : Nat) : Int) (s.rt : Int) .com))), .int .i64 ((z0L s ((s.ep + 1 : Nat) : Int) (s.rt : Int) .com).ep : Int), .ref 4, .ref 5, .ref 6, .int .i64 ((z0L s ((s.ep + 1 : Nat) : Int) (s.rt : Int) .com).re : Int), .int .i64 ((z0L s ((s.ep + 1 : Nat) : Int) (s.rt : Int) .com).rt : Int), .int .i64 ((z0L s ((s.ep + 1 : Nat) : Int) (s.rt : Int) .com).rk : Int)])), (4, some (.row 1 (vwE (z0L s ((s.ep + 1 : Nat) : Int) (s.rt : Int) .com).vs))), (5, some (.row 1 (ntE (z0L s ((s.ep + 1 : Nat) : Int) (s.rt : Int) .com).tk))), (6, some (.row 3 (chE (z0L s ((s.ep + 1 : Nat) : Int) (s.rt : Int) .com).al)))], 7⟩ → Q .normal S1) :
 W Tryz.prog ttA 2 z4u Q ⟨[(0, .ptr 1 0 0), (2, .ptr 2 0 0), (4, .int .i64 ((a : Nat) : Int)), (5, .ptr 3 0 0), (6, .int .i64 ((tr : Nat) : Int)), (7, .int .i64 ((k : Nat) : Int))], [(1, some (curE c i h)), (2, some (.box [.int .i64 0, .int .i64 0, .bool false, .val nilV, .int .i64 0, .val nilV, .val nilV, .val nilV, .int .i64 0, .int .i64 0, .int .i64 0])), (3, some (.box [.int .i64 (a : Int), .int .i64 (K : Int), .bool true, .sl 3 (flE (dkOf shardN ts)), .int .i64 ((s).ep : Int), .ref 4, .ref 5, .ref 6, .int .i64 ((s).re : Int), .int .i64 ((s).rt : Int), .int .i64 ((s).rk : Int)])), (4, some (.row 1 (vwE (s).vs))), (5, some (.row 1 (ntE (s).tk))), (6, some (.row 3 (chE (s).al)))], 7⟩ := by
 have f1 : ((k : Nat) : Int) < ((x : Nat) : Int) := by omega
 have g1 := g.ok.ep
 have g2 := g.ok.rt
 have hp : (2 : Nat) ^ K ≤ 4 := by rcases (show K = 0 ∨ K = 1 ∨ K = 2 by omega) with h | h | h <;> subst h <;> decide
 have hV : (vwE s.vs).length ≤ 10 := by rw [z3D, g.ok.vl]; omega
 have cH := zfB a K (vwE s.vs) hV g (by omega) hK ha 4 0 ((a + 1 : Nat) : Int) ((s.ep + 1 : Nat) : Int) (s.rt : Int) [] hz
 have eV : vwE (z0L s ((s.ep + 1 : Nat) : Int) (s.rt : Int) .com).vs = vwE s.vs ++ [[.sl 2 (lvE (z1N s))]] := by show vwE (s.vs ++ [z1N s]) = _; rw [zg5]; rfl
 have eS : z0L s ((s.ep + 1 : Nat) : Int) (s.rt : Int) .com = z19 s := rfl
 rw [eV, eS] at hQ0
 unfold svH svB z19 at cH
 unfold z19 at hQ0
 simp only [List.cons_append, List.nil_append] at cH
 generalize zal a K s _ _ .com = HL at cH
 generalize dkOf shardN (ts ++ z2S s ((s.ep + 1 : Nat) : Int) (s.rt : Int) .com) = d2 at *
 generalize dkOf shardN ts = d0 at *
 generalize lvE (z1N s) = RL at *
 clear g hz eV eS
 have q5 : (5 : Int) = 5 := by decide
 have n0 : ¬ (5 : Int) = 0 := by decide
 have n1 : ¬ (5 : Int) = 1 := by decide
 have n2 : ¬ (5 : Int) = 2 := by decide
 have n3 : ¬ (5 : Int) = 3 := by decide
 have n4 : ¬ (5 : Int) = 4 := by decide
 have n6 : ¬ (5 : Int) = 6 := by decide
 unfold ltL at cH
 conv => arg 4; whnf
 repeat ((try conv => whnf); first | (with_reducible first | refine z0f (fun Qs hN hE hR => ?_) | refine z0d ?_ | refine z04 (fun Qb kN kE kX kR => ?_) | refine z06 ?_ | refine z07 ?_ | refine z0e ?_ | refine z08 ?_ | refine z09 ?_ | (show W _ _ _ (.cond _ _ _) _ _; refine z05 rfl ?_) | (refine hN _ ?_; try clear hN hE hR Qs; (try (conv => arg 6; dsimp only [ovl, List.set, List.map, ren0]))) | ((first | refine hE _ _ ?_ | refine hR _ ?_); try clear hN hE hR Qs) | ((first | refine kN _ ?_ | refine kE _ ?_ | refine kX _ _ rfl ?_ | refine kR _ ?_); try clear kN kE kX kR Qb)) | (refine ccB ([1]) (kx) ?_) | (refine z0h f1 ?_) | (refine ccB ([1]) (kd) ?_) | (refine z0h q5 ?_) | (refine z0c n0 ?_) | (refine z0c n1 ?_) | (refine z0c n2 ?_) | (refine z0c n3 ?_) | (refine z0c n4 ?_) | (refine z0c n6 ?_) | (refine ccB ([3, 4, 5, 6]) (cH) ?_) | (refine And.intro (by kernel_rfl) ?_) | (refine stpQ ?_))
 refine hQ0 _ ?_
 (refine z02 (by rfl) ?_ ?_) <;> (repeat' (first | (exact eqA) | (refine And.intro ?_ ?_) | ((fail_if_success (with_reducible (show _ = _))); (show _ = _)))) <;> first | rfl | omega
theorem rlA6 (Q : Pst) (c : Bs) (a K : Nat) (ts : List Bs) (tr k i : Nat) (h : Int) (hK : K ≤ 2) (ha : a < 2 ^ K) (hk : k ≤ 30) (htr : tr ≤ 60) {s : Sv} (g : LogOk (a : Int) (K : Int) k ts s) {x i1 : Nat} {h1 : Int} (kx : CT Tryz.prog 71 [curE c i h] [.ptr 1 0 0, .int .i64 22] (.int .i64 ((x : Nat) : Int)) [curE c i1 h1]) (hx : k < x) {i2 : Nat} {h2 : Int} (kd : CT Tryz.prog 71 [curE c i1 h1] [.ptr 1 0 0, .int .i64 7] (.int .i64 6) [curE c i2 h2]) {z : Hr} (hz : z3w (a : Int) s (z0a 3 0 ((a + 1 : Nat) : Int) ((s.ep + 1 : Nat) : Int) (s.rt : Int) []) 3 ((a + 1 : Nat) : Int) ((s.ep + 1 : Nat) : Int) (s.rt : Int) = z) (hc : z ≠ .com)
 (hQ0 : ∀ S1, LeP 2 S1 ⟨[(0, .ptr 1 0 0), (2, .ptr 2 0 0), (4, .int .i64 ((a : Nat) : Int)), (5, .ptr 3 0 0), (6, .int .i64 ((tr : Nat) : Int)), (7, .int .i64 ((k + 1 : Nat) : Int))], [(1, some (curE c i2 h2)), (2, some (.box [.int .i64 0, .int .i64 0, .bool false, .val nilV, .int .i64 0, .val nilV, .val nilV, .val nilV, .int .i64 0, .int .i64 0, .int .i64 0])), (3, some (.box [.int .i64 (a : Int), .int .i64 (K : Int), .bool true, .sl 3 (flE (dkOf shardN (ts ++ z2S s ((s.ep + 1 : Nat) : Int) (s.rt : Int) z))), .int .i64 ((z0L s ((s.ep + 1 : Nat) : Int) (s.rt : Int) z).ep : Int), .ref 4, .ref 5, .ref 6, .int .i64 ((z0L s ((s.ep + 1 : Nat) : Int) (s.rt : Int) z).re : Int), .int .i64 ((z0L s ((s.ep + 1 : Nat) : Int) (s.rt : Int) z).rt : Int), .int .i64 ((z0L s ((s.ep + 1 : Nat) : Int) (s.rt : Int) z).rk : Int)])), (4, some (.row 1 (vwE (z0L s ((s.ep + 1 : Nat) : Int) (s.rt : Int) z).vs))), (5, some (.row 1 (ntE (z0L s ((s.ep + 1 : Nat) : Int) (s.rt : Int) z).tk))), (6, some (.row 3 (chE (z0L s ((s.ep + 1 : Nat) : Int) (s.rt : Int) z).al)))], 7⟩ → Q .normal S1) :
 W Tryz.prog ttA 2 z4u Q ⟨[(0, .ptr 1 0 0), (2, .ptr 2 0 0), (4, .int .i64 ((a : Nat) : Int)), (5, .ptr 3 0 0), (6, .int .i64 ((tr : Nat) : Int)), (7, .int .i64 ((k : Nat) : Int))], [(1, some (curE c i h)), (2, some (.box [.int .i64 0, .int .i64 0, .bool false, .val nilV, .int .i64 0, .val nilV, .val nilV, .val nilV, .int .i64 0, .int .i64 0, .int .i64 0])), (3, some (.box [.int .i64 (a : Int), .int .i64 (K : Int), .bool true, .sl 3 (flE (dkOf shardN ts)), .int .i64 ((s).ep : Int), .ref 4, .ref 5, .ref 6, .int .i64 ((s).re : Int), .int .i64 ((s).rt : Int), .int .i64 ((s).rk : Int)])), (4, some (.row 1 (vwE (s).vs))), (5, some (.row 1 (ntE (s).tk))), (6, some (.row 3 (chE (s).al)))], 7⟩ := by
 have f1 : ((k : Nat) : Int) < ((x : Nat) : Int) := by omega
 have g1 := g.ok.ep
 have g2 := g.ok.rt
 have hp : (2 : Nat) ^ K ≤ 4 := by rcases (show K = 0 ∨ K = 1 ∨ K = 2 by omega) with h | h | h <;> subst h <;> decide
 have cH := z5j a K (vwE s.vs) g (by omega) hK ha 3 0 ((a + 1 : Nat) : Int) ((s.ep + 1 : Nat) : Int) (s.rt : Int) [] hz hc
 have eV : ∀ (e y : Int), (z0L s e y z).vs = s.vs ∧ (z0L s e y z).tk = s.tk ∧ (z0L s e y z).al = s.al := fun e y => by cases z <;> first | exact absurd rfl hc | exact ⟨rfl, rfl, rfl⟩
 have eV1 := eV ((s.ep + 1 : Nat) : Int) (s.rt : Int)
 rw [z0y, z0y] at cH
 simp only [List.cons_append, List.nil_append] at cH
 generalize zal a K s _ _ z = HL at cH
 generalize dkOf shardN (ts ++ z2S s ((s.ep + 1 : Nat) : Int) (s.rt : Int) z) = d2 at *
 generalize dkOf shardN ts = d0 at *
 generalize z0L s ((s.ep + 1 : Nat) : Int) (s.rt : Int) z = s2 at *
 obtain ⟨v1, v2, v3⟩ := eV1
 rw [v2, v3] at cH
 rw [v1, v2, v3] at hQ0
 clear g hz eV v1 v2 v3
 have q6 : (6 : Int) = 6 := by decide
 have n0 : ¬ (6 : Int) = 0 := by decide
 have n1 : ¬ (6 : Int) = 1 := by decide
 have n2 : ¬ (6 : Int) = 2 := by decide
 have n3 : ¬ (6 : Int) = 3 := by decide
 have n4 : ¬ (6 : Int) = 4 := by decide
 have n5 : ¬ (6 : Int) = 5 := by decide
 unfold ltL at cH
 conv => arg 4; whnf
 repeat ((try conv => whnf); first | (with_reducible first | refine z0f (fun Qs hN hE hR => ?_) | refine z0d ?_ | refine z04 (fun Qb kN kE kX kR => ?_) | refine z06 ?_ | refine z07 ?_ | refine z0e ?_ | refine z08 ?_ | refine z09 ?_ | (show W _ _ _ (.cond _ _ _) _ _; refine z05 rfl ?_) | (refine hN _ ?_; try clear hN hE hR Qs; (try (conv => arg 6; dsimp only [ovl, List.set, List.map, ren0]))) | ((first | refine hE _ _ ?_ | refine hR _ ?_); try clear hN hE hR Qs) | ((first | refine kN _ ?_ | refine kE _ ?_ | refine kX _ _ rfl ?_ | refine kR _ ?_); try clear kN kE kX kR Qb)) | (refine ccB ([1]) (kx) ?_) | (refine z0h f1 ?_) | (refine ccB ([1]) (kd) ?_) | (refine z0h q6 ?_) | (refine z0c n0 ?_) | (refine z0c n1 ?_) | (refine z0c n2 ?_) | (refine z0c n3 ?_) | (refine z0c n4 ?_) | (refine z0c n5 ?_) | (refine ccB ([3, 4, 5, 6]) (cH) ?_) | (refine And.intro (by kernel_rfl) ?_) | (refine stpQ ?_))
 refine hQ0 _ ?_
 (refine z02 (by rfl) ?_ ?_) <;> (repeat' (first | (exact eqA) | (refine And.intro ?_ ?_) | ((fail_if_success (with_reducible (show _ = _))); (show _ = _)))) <;> first | rfl | omega
end
end Go.Proofs.YtfjbinbpgdiafaaGreatDoor
