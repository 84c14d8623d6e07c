/- Functions by content: a new coordinator of the reference, its rows its own; rounds of a drawn life. -/
import Derived.Test.YtkjjacndfieeoaaGreatDoorCdh
import Derived.Test.YtkjjacndfieeoaaGreatDoorCbx
namespace Go.Proofs.YtkjjacndfieeoaaGreatDoor
set_option maxRecDepth 100000
set_option maxHeartbeats 8000000
set_option linter.unusedVariables false
set_option linter.unusedSimpArgs false
set_option linter.unusedSectionVars false
open Go.RowKit Pl
def lpsD : Code → List Code
 | .seq x y => lpsD x ++ lpsD y
 | .block _ c => lpsD c
 | .cond _ x y => lpsD x ++ lpsD y
 | .loop c => c :: lpsD c
 | _ => []
def lpD (k : Nat) (f : Func) : Code := match f.body with
 | some c => (lpsD c).getD k .skip
 | none => .skip
noncomputable def z2N : Code := lpD 0 Tryz.f21
section
attribute [local irreducible] z0m z0n z0q AnsP LeP W CvE
theorem zg8 (ho : Int) (K : Nat) (hK : K ≤ 2) (po : List Bs) (hpo : (po.length : Int) ≤ 100000) : CT Tryz.prog 89 [] [.int .i64 ho, .int .i64 (K : Int), .agg [.sl 3 []], .sl 1 (strE po)] (.agg [.int .i64 ho, .int .i64 (K : Int), .bool true, .sl 3 [], .sl 1 (strE po), .ref 1, .ref 2, .int .i64 0, .bool false, .ref 3, .ref 4]) [.row 8 [], .row 1 [], .row 1 (emV (2 ^ K)), .row 1 (emD (2 ^ K))] := by
 have c2 := zaR [] z0P ⟨by decide, fun k => by
  have h : flAt [] k = flAt [] 0 := by cases k <;> rfl
  rw [h]
  exact ⟨by decide, by decide⟩⟩
 have e0 : z0N [] z0P = [] := by unfold z0N; split <;> rfl
 rw [e0] at c2
 unfold z0P at c2
 have f0 : ¬ (0 : Int) < (0 : Int) := by decide
 have hpl := z0d po
 have c4 := z3o K hK
 obtain ⟨e1, e2⟩ := pow2 hK
 have c1 : CT Tryz.prog 123 [.box [.int .i64 ho, .int .i64 (K : Int), .bool true, .ref 2, .ref 3, .val nilV, .val nilV, .int .i64 0, .bool false, .val nilV, .val nilV], .row 3 [], .row 1 (strE po)] [.ptr 1 0 0] (.tup [])
  [.box [.int .i64 ho, .int .i64 (K : Int), .bool true, .ref 2, .ref 3, .val nilV, .val nilV, .int .i64 0, .bool false, .ref 4, .ref 5], .row 3 [], .row 1 (strE po), .row 1 (emV (2 ^ K)), .row 1 (emD (2 ^ K))] := by
  unfold emV emD
  generalize 2 ^ K = pk at c4 e2 ⊢
  refine z01 z0r 4 rfl Tryz.func123 rfl rfl rfl ?_
  conv => arg 6; whnf
  repeat ((try conv => whnf); first | (with_reducible first | refine z0c (fun Qs hN hE hR => ?_) | refine z0a ?_ | refine z03 (fun Qb kN kE kX kR => ?_) | refine z06 ?_ | refine z07 ?_ | refine z0b ?_ | refine z08 ?_ | refine z09 ?_ | (show W _ _ _ (.cond _ _ _) _ _; refine z05 rfl ?_) | (refine hN _ ?_; try clear hN hE hR Qs; (try (conv => arg 6; dsimp only [ovl, List.set, List.map, ren0]))) | ((first | refine hE _ _ ?_ | refine hR _ ?_); try clear hN hE hR Qs) | ((first | refine kN _ ?_ | refine kE _ ?_ | refine kX _ _ rfl ?_ | refine kR _ ?_); try clear kN kE kX kR Qb)) | (refine ccA ([]) (c4) ?_) | (refine Exists.intro pk (And.intro rfl (And.intro rfl (And.intro (by omega) ?_)))) | (refine And.intro (by kernel_rfl) ?_) | (refine stpQ ?_))
  (refine z00 (by rfl) ?_ ?_ (by rfl)) <;> (repeat' (first | (exact eqA) | (refine And.intro ?_ ?_) | ((fail_if_success (with_reducible (show _ = _))); (show _ = _))))
 generalize strE po = PO at *
 generalize emV (2 ^ K) = EV at *
 generalize emD (2 ^ K) = ED at *
 refine z01 z0r 1 rfl Tryz.func89 rfl rfl rfl ?_
 conv => arg 6; whnf
 repeat ((try conv => whnf); first | (with_reducible first | refine z0c (fun Qs hN hE hR => ?_) | refine z0a ?_ | refine z03 (fun Qb kN kE kX kR => ?_) | refine z06 ?_ | refine z07 ?_ | refine z0b ?_ | refine z08 ?_ | refine z09 ?_ | (show W _ _ _ (.cond _ _ _) _ _; refine z05 rfl ?_) | (refine hN _ ?_; try clear hN hE hR Qs; (try (conv => arg 6; dsimp only [ovl, List.set, List.map, ren0]))) | ((first | refine hE _ _ ?_ | refine hR _ ?_); try clear hN hE hR Qs) | ((first | refine kN _ ?_ | refine kE _ ?_ | refine kX _ _ rfl ?_ | refine kR _ ?_); try clear kN kE kX kR Qb)) | (refine ccB ([_, _, _]) (c1) ?_) | (refine ccA ([]) (c2) ?_) | (refine Exists.intro 0 (And.intro rfl ?_)) | (refine And.intro (by simp only [List.length_append, List.length_set, List.length_replicate, List.length_cons, List.length_nil, List.nil_append]; omega) ?_) | (refine And.intro (by kernel_rfl) ?_) | (refine stpQ ?_))
 refine z0i 0 ⟨[(8, .ptr 1 0 0), (9, .ptr 2 0 0)], [(1, some (.box [.int .i64 0, .int .i64 0, .bool false, .val nilV, .val nilV, .val nilV, .val nilV, .int .i64 0, .bool false, .val nilV, .val nilV])), (2, some (.box [.int .i64 ho, .int .i64 (K : Int), .bool true, .sl 3 [], .sl 1 PO, .ref 3, .ref 4, .int .i64 0, .bool false, .ref 5, .ref 6])), (3, some (.row 8 [])), (4, some (.row 1 [])), (5, some (.row 1 EV)), (6, some (.row 1 ED))], 7⟩ Nat (fun i => ⟨[(8, .ptr 1 0 0), (9, .ptr 2 0 0), (10, .sl 1 []), (11, .int .i64 0)], [(1, some (.box [.int .i64 0, .int .i64 0, .bool false, .val nilV, .val nilV, .val nilV, .val nilV, .int .i64 0, .bool false, .val nilV, .val nilV])), (2, some (.box [.int .i64 ho, .int .i64 (K : Int), .bool true, .sl 3 [], .sl 1 PO, .ref 3, .ref 4, .int .i64 0, .bool false, .ref 5, .ref 6])), (3, some (.row 8 [])), (4, some (.row 1 [])), (5, some (.row 1 EV)), (6, some (.row 1 ED))], 7⟩) (fun i => True) (fun i => 0) 0 trivial ?_ ?_ ?_
 ·(refine z02 (by rfl) ?_ ?_) <;> (repeat' (first | (exact eqA) | (refine And.intro ?_ ?_) | ((fail_if_success (with_reducible (show _ = _))); (show _ = _)))) <;> first | rfl | decide
 ·intro i hi
  repeat ((try conv => whnf); first | (with_reducible first | refine z0c (fun Qs hN hE hR => ?_) | refine z0a ?_ | refine z03 (fun Qb kN kE kX kR => ?_) | refine z06 ?_ | refine z07 ?_ | refine z0b ?_ | refine z08 ?_ | refine z09 ?_ | (show W _ _ _ (.cond _ _ _) _ _; refine z05 rfl ?_) | (refine hN _ ?_; try clear hN hE hR Qs; (try (conv => arg 6; dsimp only [ovl, List.set, List.map, ren0]))) | ((first | refine hE _ _ ?_ | refine hR _ ?_); try clear hN hE hR Qs) | ((first | refine kN _ ?_ | refine kE _ ?_ | refine kX _ _ rfl ?_ | refine kR _ ?_); try clear kN kE kX kR Qb)) | (refine Exists.intro 0 (And.intro rfl ?_)) | (refine z0o f0 ?_) | (refine And.intro (by kernel_rfl) ?_) | (refine stpQ ?_))
  (refine z02 (by rfl) ?_ ?_) <;> (repeat' (first | (exact eqA) | (refine And.intro ?_ ?_) | ((fail_if_success (with_reducible (show _ = _))); (show _ = _)))) <;> rfl
 ·repeat ((try conv => whnf); first | (with_reducible first | refine z0c (fun Qs hN hE hR => ?_) | refine z0a ?_ | refine z03 (fun Qb kN kE kX kR => ?_) | refine z06 ?_ | refine z07 ?_ | refine z0b ?_ | refine z08 ?_ | refine z09 ?_ | (show W _ _ _ (.cond _ _ _) _ _; refine z05 rfl ?_) | (refine hN _ ?_; try clear hN hE hR Qs; (try (conv => arg 6; dsimp only [ovl, List.set, List.map, ren0]))) | ((first | refine hE _ _ ?_ | refine hR _ ?_); try clear hN hE hR Qs) | ((first | refine kN _ ?_ | refine kE _ ?_ | refine kX _ _ rfl ?_ | refine kR _ ?_); try clear kN kE kX kR Qb)) | (refine And.intro (by kernel_rfl) ?_) | (refine stpQ ?_))
  (refine z00 (by rfl) ?_ ?_ (by rfl)) <;> (repeat' (first | (exact eqA) | (refine And.intro ?_ ?_) | ((fail_if_success (with_reducible (show _ = _))); (show _ = _)))) <;> first | rfl | decide
theorem zai (ho : Nat) (hh : ho ≤ 2) (K : Nat) (hK : K ≤ 2) : CT Tryz.prog 55 [] [.int .i64 (ho : Int), .int .i64 (K : Int), .agg [.sl 3 []]] (.agg [.int .i64 (ho : Int), .int .i64 (K : Int), .bool true, .sl 3 [], .sl 1 (strE (z0g (z0j ho) 16)), .ref 1, .ref 2, .int .i64 0, .bool false, .ref 3, .ref 4]) [.row 8 [], .row 1 [], .row 1 (emV (2 ^ K)), .row 1 (emD (2 ^ K))] := by
 have c1 := za5 ho hh
 have c2 := zhf (z0j ho) (z5s ho)
 have hp : ((z0g (z0j ho) 16).length : Int) ≤ 100000 := by rw [z0H]; decide
 have c3 := zg8 (ho : Int) K hK (z0g (z0j ho) 16) hp
 clear hp
 generalize z0g (z0j ho) 16 = po at *
 generalize z0j ho = sd at *
 generalize emV (2 ^ K) = EV at *
 generalize emD (2 ^ K) = ED at *
 refine z01 z0r 1 rfl Tryz.func55 rfl rfl rfl ?_
 conv => arg 6; whnf
 repeat ((try conv => whnf); first | (with_reducible first | refine z0c (fun Qs hN hE hR => ?_) | refine z0a ?_ | refine z03 (fun Qb kN kE kX kR => ?_) | refine z06 ?_ | refine z07 ?_ | refine z0b ?_ | refine z08 ?_ | refine z09 ?_ | (show W _ _ _ (.cond _ _ _) _ _; refine z05 rfl ?_) | (refine hN _ ?_; try clear hN hE hR Qs; (try (conv => arg 6; dsimp only [ovl, List.set, List.map, ren0]))) | ((first | refine hE _ _ ?_ | refine hR _ ?_); try clear hN hE hR Qs) | ((first | refine kN _ ?_ | refine kE _ ?_ | refine kX _ _ rfl ?_ | refine kR _ ?_); try clear kN kE kX kR Qb)) | (refine ccA ([]) (c1) ?_) | (refine ccA ([]) (c2) ?_) | (refine ccA ([]) (c3) ?_) | (refine And.intro (by kernel_rfl) ?_) | (refine stpQ ?_))
 (refine z00 (by rfl) ?_ ?_ (by rfl)) <;> (repeat' (first | (exact eqA) | (refine And.intro ?_ ?_) | ((fail_if_success (with_reducible (show _ = _))); (show _ = _)))) <;> rfl
theorem rdB0y (Q : Pst) (c : Bs) (ho K k i : Nat) (h : Int) (hh : ho ≤ 2) (hK : K ≤ 2) (hk : k ≤ 30) (x : Co) (g : CoOk ho K k x) {z i1 : Nat} {h1 : Int} (kx : CT Tryz.prog 24 [curE c i h] [.ptr 1 0 0, .int .i64 26] (.int .i64 ((z : Nat) : Int)) [curE c i1 h1]) (hx : k < z) {d i2 : Nat} {h2 : Int} (kd : CT Tryz.prog 24 [curE c i1 h1] [.ptr 1 0 0, .int .i64 8] (.int .i64 ((d : Nat) : Int)) [curE c i2 h2]) (hd : d = 0) (ha : x.ask = false) (hs : x.s.se.length < 4) (hy : x.s.ty ≤ 999)
 (hQ0 : ∀ S1, LeP 2 S1 ⟨[(0, .ptr 1 0 0), (2, .ptr 2 0 0), (3, .int .i64 ((K : Nat) : Int)), (4, .ptr 3 0 0), (5, .int .i64 ((k + 1 : Nat) : Int))], [(1, some (curE c i2 h2)), (2, some (.box [.int .i64 0, .int .i64 0, .bool false, .val nilV, .val nilV, .val nilV, .val nilV, .int .i64 0, .bool false, .val nilV, .val nilV])), (3, some (coB (ho : Int) (K : Int) (z0g (z0j ho) 16) (begC K x).ts (begC K x).s.ty (begC K x).ask 4 5 6 7)), (4, some (.row 8 (slE (begC K x).s.se))), (5, some (.row 1 (ntE (begC K x).s.tr))), (6, some (.row 1 (strE (begC K x).vo))), (7, some (.row 1 (boE (begC K x).dn)))], 8⟩ → Q .normal S1) :
 W Tryz.prog ttA 2 z2N Q ⟨[(0, .ptr 1 0 0), (2, .ptr 2 0 0), (3, .int .i64 ((K : Nat) : Int)), (4, .ptr 3 0 0), (5, .int .i64 ((k : Nat) : Int))], [(1, some (curE c i h)), (2, some (.box [.int .i64 0, .int .i64 0, .bool false, .val nilV, .val nilV, .val nilV, .val nilV, .int .i64 0, .bool false, .val nilV, .val nilV])), (3, some (coB (ho : Int) (K : Int) (z0g (z0j ho) 16) (x).ts (x).s.ty (x).ask 4 5 6 7)), (4, some (.row 8 (slE (x).s.se))), (5, some (.row 1 (ntE (x).s.tr))), (6, some (.row 1 (strE (x).vo))), (7, some (.row 1 (boE (x).dn)))], 8⟩ := by
 have f1 : ((k : Nat) : Int) < ((z : Nat) : Int) := by omega
 have m0 : ((d : Nat) : Int) = 0 := by omega
 have cB := z3H (ho : Int) K hK (z0g (z0j ho) 16) x ha hs hy (by have q1 := z1V (ts := x.ts) (t := begB (x.s.ty + 1)) (by have := z1D (n := x.s.ty + 1) (by omega); omega); have q2 := g.lg.small hh (by omega); have := z1D (n := x.s.ty + 1) (by omega); omega)
 have eB : begC K x = ⟨x.ts ++ [begB (x.s.ty + 1)], { x.s with ty := x.s.ty + 1 }, true, emN K, x.dn⟩ := if_pos ⟨ha, hs, hy⟩
 rw [eB] at hQ0
 simp only at hQ0
 rw [z8R] at hQ0
 unfold coH at cB
 clear g
 unfold coH coB at *
 conv => arg 4; whnf
 repeat ((try conv => whnf); first | (with_reducible first | refine z0c (fun Qs hN hE hR => ?_) | refine z0a ?_ | refine z03 (fun Qb kN kE kX kR => ?_) | refine z06 ?_ | refine z07 ?_ | refine z0b ?_ | refine z08 ?_ | refine z09 ?_ | (show W _ _ _ (.cond _ _ _) _ _; refine z05 rfl ?_) | (refine hN _ ?_; try clear hN hE hR Qs; (try (conv => arg 6; dsimp only [ovl, List.set, List.map, ren0]))) | ((first | refine hE _ _ ?_ | refine hR _ ?_); try clear hN hE hR Qs) | ((first | refine kN _ ?_ | refine kE _ ?_ | refine kX _ _ rfl ?_ | refine kR _ ?_); try clear kN kE kX kR Qb)) | (refine ccB ([1]) (kx) ?_) | (refine z0k f1 ?_) | (refine ccB ([1]) (kd) ?_) | (refine z0k m0 ?_) | (refine ccB ([3, 4, 5, 6, 7]) (cB) ?_) | (refine And.intro (by kernel_rfl) ?_) | (refine stpQ ?_))
 refine hQ0 _ ?_
 (refine z02 (by rfl) ?_ ?_) <;> (repeat' (first | (exact eqA) | (refine And.intro ?_ ?_) | ((fail_if_success (with_reducible (show _ = _))); (show _ = _)))) <;> first | rfl | omega
theorem rdB0n (Q : Pst) (c : Bs) (ho K k i : Nat) (h : Int) (hh : ho ≤ 2) (hK : K ≤ 2) (hk : k ≤ 30) (x : Co) (g : CoOk ho K k x) {z i1 : Nat} {h1 : Int} (kx : CT Tryz.prog 24 [curE c i h] [.ptr 1 0 0, .int .i64 26] (.int .i64 ((z : Nat) : Int)) [curE c i1 h1]) (hx : k < z) {d i2 : Nat} {h2 : Int} (kd : CT Tryz.prog 24 [curE c i1 h1] [.ptr 1 0 0, .int .i64 8] (.int .i64 ((d : Nat) : Int)) [curE c i2 h2]) (hd : d = 0) (hn : ¬ (x.ask = false ∧ x.s.se.length < 4 ∧ x.s.ty ≤ 999))
 (hQ0 : ∀ S1, LeP 2 S1 ⟨[(0, .ptr 1 0 0), (2, .ptr 2 0 0), (3, .int .i64 ((K : Nat) : Int)), (4, .ptr 3 0 0), (5, .int .i64 ((k + 1 : Nat) : Int))], [(1, some (curE c i2 h2)), (2, some (.box [.int .i64 0, .int .i64 0, .bool false, .val nilV, .val nilV, .val nilV, .val nilV, .int .i64 0, .bool false, .val nilV, .val nilV])), (3, some (coB (ho : Int) (K : Int) (z0g (z0j ho) 16) (begC K x).ts (begC K x).s.ty (begC K x).ask 4 5 6 7)), (4, some (.row 8 (slE (begC K x).s.se))), (5, some (.row 1 (ntE (begC K x).s.tr))), (6, some (.row 1 (strE (begC K x).vo))), (7, some (.row 1 (boE (begC K x).dn)))], 8⟩ → Q .normal S1) :
 W Tryz.prog ttA 2 z2N Q ⟨[(0, .ptr 1 0 0), (2, .ptr 2 0 0), (3, .int .i64 ((K : Nat) : Int)), (4, .ptr 3 0 0), (5, .int .i64 ((k : Nat) : Int))], [(1, some (curE c i h)), (2, some (.box [.int .i64 0, .int .i64 0, .bool false, .val nilV, .val nilV, .val nilV, .val nilV, .int .i64 0, .bool false, .val nilV, .val nilV])), (3, some (coB (ho : Int) (K : Int) (z0g (z0j ho) 16) (x).ts (x).s.ty (x).ask 4 5 6 7)), (4, some (.row 8 (slE (x).s.se))), (5, some (.row 1 (ntE (x).s.tr))), (6, some (.row 1 (strE (x).vo))), (7, some (.row 1 (boE (x).dn)))], 8⟩ := by
 have f1 : ((k : Nat) : Int) < ((z : Nat) : Int) := by omega
 have m0 : ((d : Nat) : Int) = 0 := by omega
 have cB : CT Tryz.prog 56 (coH (ho : Int) (K : Int) (z0g (z0j ho) 16) x) [.ptr 1 0 0] (.sl 6 []) (coH (ho : Int) (K : Int) (z0g (z0j ho) 16) x) := by
  cases ha : x.ask with
  | true => exact z4z (ho : Int) K (z0g (z0j ho) 16) x ha
  | false =>
    rcases Nat.lt_or_ge x.s.se.length 4 with hs | hs
    ·rcases Nat.lt_or_ge 999 x.s.ty with hy | hy
     ·exact z4B (ho : Int) K (z0g (z0j ho) 16) x ha hs hy
     ·exact absurd ⟨ha, hs, hy⟩ hn
    ·exact z4A (ho : Int) K (z0g (z0j ho) 16) x ha hs
 have eB : begC K x = x := if_neg hn
 rw [eB] at hQ0
 clear g
 unfold coH coB at *
 conv => arg 4; whnf
 repeat ((try conv => whnf); first | (with_reducible first | refine z0c (fun Qs hN hE hR => ?_) | refine z0a ?_ | refine z03 (fun Qb kN kE kX kR => ?_) | refine z06 ?_ | refine z07 ?_ | refine z0b ?_ | refine z08 ?_ | refine z09 ?_ | (show W _ _ _ (.cond _ _ _) _ _; refine z05 rfl ?_) | (refine hN _ ?_; try clear hN hE hR Qs; (try (conv => arg 6; dsimp only [ovl, List.set, List.map, ren0]))) | ((first | refine hE _ _ ?_ | refine hR _ ?_); try clear hN hE hR Qs) | ((first | refine kN _ ?_ | refine kE _ ?_ | refine kX _ _ rfl ?_ | refine kR _ ?_); try clear kN kE kX kR Qb)) | (refine ccB ([1]) (kx) ?_) | (refine z0k f1 ?_) | (refine ccB ([1]) (kd) ?_) | (refine z0k m0 ?_) | (refine ccB ([3, 4, 5, 6, 7]) (cB) ?_) | (refine And.intro (by kernel_rfl) ?_) | (refine stpQ ?_))
 refine hQ0 _ ?_
 (refine z02 (by rfl) ?_ ?_) <;> (repeat' (first | (exact eqA) | (refine And.intro ?_ ?_) | ((fail_if_success (with_reducible (show _ = _))); (show _ = _)))) <;> first | rfl | omega
theorem rdB1y (Q : Pst) (c : Bs) (ho K k i : Nat) (h : Int) (hh : ho ≤ 2) (hK : K ≤ 2) (hk : k ≤ 30) (x : Co) (g : CoOk ho K k x) {z i1 : Nat} {h1 : Int} (kx : CT Tryz.prog 24 [curE c i h] [.ptr 1 0 0, .int .i64 26] (.int .i64 ((z : Nat) : Int)) [curE c i1 h1]) (hx : k < z) {d i2 : Nat} {h2 : Int} (kd : CT Tryz.prog 24 [curE c i1 h1] [.ptr 1 0 0, .int .i64 8] (.int .i64 ((d : Nat) : Int)) [curE c i2 h2]) (hd : d = 1) (ha : x.ask = false) (hs : x.s.se.length < 4) (hy : x.s.ty ≤ 999)
 (hQ0 : ∀ S1, LeP 2 S1 ⟨[(0, .ptr 1 0 0), (2, .ptr 2 0 0), (3, .int .i64 ((K : Nat) : Int)), (4, .ptr 3 0 0), (5, .int .i64 ((k + 1 : Nat) : Int))], [(1, some (curE c i2 h2)), (2, some (.box [.int .i64 0, .int .i64 0, .bool false, .val nilV, .val nilV, .val nilV, .val nilV, .int .i64 0, .bool false, .val nilV, .val nilV])), (3, some (coB (ho : Int) (K : Int) (z0g (z0j ho) 16) (begC K x).ts (begC K x).s.ty (begC K x).ask 4 5 6 7)), (4, some (.row 8 (slE (begC K x).s.se))), (5, some (.row 1 (ntE (begC K x).s.tr))), (6, some (.row 1 (strE (begC K x).vo))), (7, some (.row 1 (boE (begC K x).dn)))], 8⟩ → Q .normal S1) :
 W Tryz.prog ttA 2 z2N Q ⟨[(0, .ptr 1 0 0), (2, .ptr 2 0 0), (3, .int .i64 ((K : Nat) : Int)), (4, .ptr 3 0 0), (5, .int .i64 ((k : Nat) : Int))], [(1, some (curE c i h)), (2, some (.box [.int .i64 0, .int .i64 0, .bool false, .val nilV, .val nilV, .val nilV, .val nilV, .int .i64 0, .bool false, .val nilV, .val nilV])), (3, some (coB (ho : Int) (K : Int) (z0g (z0j ho) 16) (x).ts (x).s.ty (x).ask 4 5 6 7)), (4, some (.row 8 (slE (x).s.se))), (5, some (.row 1 (ntE (x).s.tr))), (6, some (.row 1 (strE (x).vo))), (7, some (.row 1 (boE (x).dn)))], 8⟩ := by
 have f1 : ((k : Nat) : Int) < ((z : Nat) : Int) := by omega
 have m0 : ¬ ((d : Nat) : Int) = 0 := by omega
 have m1 : ((d : Nat) : Int) = 1 := by omega
 have cB := z3H (ho : Int) K hK (z0g (z0j ho) 16) x ha hs hy (by have q1 := z1V (ts := x.ts) (t := begB (x.s.ty + 1)) (by have := z1D (n := x.s.ty + 1) (by omega); omega); have q2 := g.lg.small hh (by omega); have := z1D (n := x.s.ty + 1) (by omega); omega)
 have eB : begC K x = ⟨x.ts ++ [begB (x.s.ty + 1)], { x.s with ty := x.s.ty + 1 }, true, emN K, x.dn⟩ := if_pos ⟨ha, hs, hy⟩
 rw [eB] at hQ0
 simp only at hQ0
 rw [z8R] at hQ0
 unfold coH at cB
 clear g
 unfold coH coB at *
 conv => arg 4; whnf
 repeat ((try conv => whnf); first | (with_reducible first | refine z0c (fun Qs hN hE hR => ?_) | refine z0a ?_ | refine z03 (fun Qb kN kE kX kR => ?_) | refine z06 ?_ | refine z07 ?_ | refine z0b ?_ | refine z08 ?_ | refine z09 ?_ | (show W _ _ _ (.cond _ _ _) _ _; refine z05 rfl ?_) | (refine hN _ ?_; try clear hN hE hR Qs; (try (conv => arg 6; dsimp only [ovl, List.set, List.map, ren0]))) | ((first | refine hE _ _ ?_ | refine hR _ ?_); try clear hN hE hR Qs) | ((first | refine kN _ ?_ | refine kE _ ?_ | refine kX _ _ rfl ?_ | refine kR _ ?_); try clear kN kE kX kR Qb)) | (refine ccB ([1]) (kx) ?_) | (refine z0k f1 ?_) | (refine ccB ([1]) (kd) ?_) | (refine z0o m0 ?_) | (refine z0k m1 ?_) | (refine ccB ([3, 4, 5, 6, 7]) (cB) ?_) | (refine And.intro (by kernel_rfl) ?_) | (refine stpQ ?_))
 refine hQ0 _ ?_
 (refine z02 (by rfl) ?_ ?_) <;> (repeat' (first | (exact eqA) | (refine And.intro ?_ ?_) | ((fail_if_success (with_reducible (show _ = _))); (show _ = _)))) <;> first | rfl | omega
theorem rdB1n (Q : Pst) (c : Bs) (ho K k i : Nat) (h : Int) (hh : ho ≤ 2) (hK : K ≤ 2) (hk : k ≤ 30) (x : Co) (g : CoOk ho K k x) {z i1 : Nat} {h1 : Int} (kx : CT Tryz.prog 24 [curE c i h] [.ptr 1 0 0, .int .i64 26] (.int .i64 ((z : Nat) : Int)) [curE c i1 h1]) (hx : k < z) {d i2 : Nat} {h2 : Int} (kd : CT Tryz.prog 24 [curE c i1 h1] [.ptr 1 0 0, .int .i64 8] (.int .i64 ((d : Nat) : Int)) [curE c i2 h2]) (hd : d = 1) (hn : ¬ (x.ask = false ∧ x.s.se.length < 4 ∧ x.s.ty ≤ 999))
 (hQ0 : ∀ S1, LeP 2 S1 ⟨[(0, .ptr 1 0 0), (2, .ptr 2 0 0), (3, .int .i64 ((K : Nat) : Int)), (4, .ptr 3 0 0), (5, .int .i64 ((k + 1 : Nat) : Int))], [(1, some (curE c i2 h2)), (2, some (.box [.int .i64 0, .int .i64 0, .bool false, .val nilV, .val nilV, .val nilV, .val nilV, .int .i64 0, .bool false, .val nilV, .val nilV])), (3, some (coB (ho : Int) (K : Int) (z0g (z0j ho) 16) (begC K x).ts (begC K x).s.ty (begC K x).ask 4 5 6 7)), (4, some (.row 8 (slE (begC K x).s.se))), (5, some (.row 1 (ntE (begC K x).s.tr))), (6, some (.row 1 (strE (begC K x).vo))), (7, some (.row 1 (boE (begC K x).dn)))], 8⟩ → Q .normal S1) :
 W Tryz.prog ttA 2 z2N Q ⟨[(0, .ptr 1 0 0), (2, .ptr 2 0 0), (3, .int .i64 ((K : Nat) : Int)), (4, .ptr 3 0 0), (5, .int .i64 ((k : Nat) : Int))], [(1, some (curE c i h)), (2, some (.box [.int .i64 0, .int .i64 0, .bool false, .val nilV, .val nilV, .val nilV, .val nilV, .int .i64 0, .bool false, .val nilV, .val nilV])), (3, some (coB (ho : Int) (K : Int) (z0g (z0j ho) 16) (x).ts (x).s.ty (x).ask 4 5 6 7)), (4, some (.row 8 (slE (x).s.se))), (5, some (.row 1 (ntE (x).s.tr))), (6, some (.row 1 (strE (x).vo))), (7, some (.row 1 (boE (x).dn)))], 8⟩ := by
 have f1 : ((k : Nat) : Int) < ((z : Nat) : Int) := by omega
 have m0 : ¬ ((d : Nat) : Int) = 0 := by omega
 have m1 : ((d : Nat) : Int) = 1 := by omega
 have cB : CT Tryz.prog 56 (coH (ho : Int) (K : Int) (z0g (z0j ho) 16) x) [.ptr 1 0 0] (.sl 6 []) (coH (ho : Int) (K : Int) (z0g (z0j ho) 16) x) := by
  cases ha : x.ask with
  | true => exact z4z (ho : Int) K (z0g (z0j ho) 16) x ha
  | false =>
    rcases Nat.lt_or_ge x.s.se.length 4 with hs | hs
    ·rcases Nat.lt_or_ge 999 x.s.ty with hy | hy
     ·exact z4B (ho : Int) K (z0g (z0j ho) 16) x ha hs hy
     ·exact absurd ⟨ha, hs, hy⟩ hn
    ·exact z4A (ho : Int) K (z0g (z0j ho) 16) x ha hs
 have eB : begC K x = x := if_neg hn
 rw [eB] at hQ0
 clear g
 unfold coH coB at *
 conv => arg 4; whnf
 repeat ((try conv => whnf); first | (with_reducible first | refine z0c (fun Qs hN hE hR => ?_) | refine z0a ?_ | refine z03 (fun Qb kN kE kX kR => ?_) | refine z06 ?_ | refine z07 ?_ | refine z0b ?_ | refine z08 ?_ | refine z09 ?_ | (show W _ _ _ (.cond _ _ _) _ _; refine z05 rfl ?_) | (refine hN _ ?_; try clear hN hE hR Qs; (try (conv => arg 6; dsimp only [ovl, List.set, List.map, ren0]))) | ((first | refine hE _ _ ?_ | refine hR _ ?_); try clear hN hE hR Qs) | ((first | refine kN _ ?_ | refine kE _ ?_ | refine kX _ _ rfl ?_ | refine kR _ ?_); try clear kN kE kX kR Qb)) | (refine ccB ([1]) (kx) ?_) | (refine z0k f1 ?_) | (refine ccB ([1]) (kd) ?_) | (refine z0o m0 ?_) | (refine z0k m1 ?_) | (refine ccB ([3, 4, 5, 6, 7]) (cB) ?_) | (refine And.intro (by kernel_rfl) ?_) | (refine stpQ ?_))
 refine hQ0 _ ?_
 (refine z02 (by rfl) ?_ ?_) <;> (repeat' (first | (exact eqA) | (refine And.intro ?_ ?_) | ((fail_if_success (with_reducible (show _ = _))); (show _ = _)))) <;> first | rfl | omega
theorem rdG (Q : Pst) (c : Bs) (ho K k i : Nat) (h : Int) (hh : ho ≤ 2) (hK : K ≤ 2) (hk : k ≤ 30) (x : Co) (g : CoOk ho K k x) {z i1 : Nat} {h1 : Int} (kx : CT Tryz.prog 24 [curE c i h] [.ptr 1 0 0, .int .i64 26] (.int .i64 ((z : Nat) : Int)) [curE c i1 h1]) (hx : k < z) {d i2 : Nat} {h2 : Int} (kd : CT Tryz.prog 24 [curE c i1 h1] [.ptr 1 0 0, .int .i64 8] (.int .i64 ((d : Nat) : Int)) [curE c i2 h2]) (hd : d = 2) {i3 : Nat} {h3 : Int} (kg : CT Tryz.prog 57 [curE c i2 h2] [.ptr 1 0 0, .int .i64 3] (.bool true) [curE c i3 h3]) (ha : x.ask = true)
 (hQ0 : ∀ S1, LeP 2 S1 ⟨[(0, .ptr 1 0 0), (2, .ptr 2 0 0), (3, .int .i64 ((K : Nat) : Int)), (4, .ptr 3 0 0), (5, .int .i64 ((k + 1 : Nat) : Int))], [(1, some (curE c i3 h3)), (2, some (.box [.int .i64 0, .int .i64 0, .bool false, .val nilV, .val nilV, .val nilV, .val nilV, .int .i64 0, .bool false, .val nilV, .val nilV])), (3, some (coB (ho : Int) (K : Int) (z0g (z0j ho) 16) (givC K x).ts (givC K x).s.ty (givC K x).ask 4 5 6 7)), (4, some (.row 8 (slE (givC K x).s.se))), (5, some (.row 1 (ntE (givC K x).s.tr))), (6, some (.row 1 (strE (givC K x).vo))), (7, some (.row 1 (boE (givC K x).dn)))], 8⟩ → Q .normal S1) :
 W Tryz.prog ttA 2 z2N Q ⟨[(0, .ptr 1 0 0), (2, .ptr 2 0 0), (3, .int .i64 ((K : Nat) : Int)), (4, .ptr 3 0 0), (5, .int .i64 ((k : Nat) : Int))], [(1, some (curE c i h)), (2, some (.box [.int .i64 0, .int .i64 0, .bool false, .val nilV, .val nilV, .val nilV, .val nilV, .int .i64 0, .bool false, .val nilV, .val nilV])), (3, some (coB (ho : Int) (K : Int) (z0g (z0j ho) 16) (x).ts (x).s.ty (x).ask 4 5 6 7)), (4, some (.row 8 (slE (x).s.se))), (5, some (.row 1 (ntE (x).s.tr))), (6, some (.row 1 (strE (x).vo))), (7, some (.row 1 (boE (x).dn)))], 8⟩ := by
 have f1 : ((k : Nat) : Int) < ((z : Nat) : Int) := by omega
 have m0 : ¬ ((d : Nat) : Int) = 0 := by omega
 have m1 : ¬ ((d : Nat) : Int) = 1 := by omega
 have m2 : ((d : Nat) : Int) = 2 := by omega
 have cB := z8T (ho : Int) K hK (z0g (z0j ho) 16) x ha (by have := z1H (g.lg.ok hh); omega)
 have eB : givC K x = { x with ask := false, vo := emN K } := if_pos ha
 rw [eB] at hQ0
 simp only at hQ0
 rw [z8R] at hQ0
 clear g
 unfold coH coB at *
 conv => arg 4; whnf
 repeat ((try conv => whnf); first | (with_reducible first | refine z0c (fun Qs hN hE hR => ?_) | refine z0a ?_ | refine z03 (fun Qb kN kE kX kR => ?_) | refine z06 ?_ | refine z07 ?_ | refine z0b ?_ | refine z08 ?_ | refine z09 ?_ | (show W _ _ _ (.cond _ _ _) _ _; refine z05 rfl ?_) | (refine hN _ ?_; try clear hN hE hR Qs; (try (conv => arg 6; dsimp only [ovl, List.set, List.map, ren0]))) | ((first | refine hE _ _ ?_ | refine hR _ ?_); try clear hN hE hR Qs) | ((first | refine kN _ ?_ | refine kE _ ?_ | refine kX _ _ rfl ?_ | refine kR _ ?_); try clear kN kE kX kR Qb)) | (refine ccB ([1]) (kx) ?_) | (refine z0k f1 ?_) | (refine ccB ([1]) (kd) ?_) | (refine z0o m0 ?_) | (refine z0o m1 ?_) | (refine z0k m2 ?_) | (refine ccB ([1]) (kg) ?_) | (refine ccB ([3, 4, 5, 6, 7]) (cB) ?_) | (refine And.intro (by kernel_rfl) ?_) | (refine stpQ ?_))
 refine hQ0 _ ?_
 (refine z02 (by rfl) ?_ ?_) <;> (repeat' (first | (exact eqA) | (refine And.intro ?_ ?_) | ((fail_if_success (with_reducible (show _ = _))); (show _ = _)))) <;> first | rfl | omega
theorem rdGn (Q : Pst) (c : Bs) (ho K k i : Nat) (h : Int) (hh : ho ≤ 2) (hK : K ≤ 2) (hk : k ≤ 30) (x : Co) (g : CoOk ho K k x) {z i1 : Nat} {h1 : Int} (kx : CT Tryz.prog 24 [curE c i h] [.ptr 1 0 0, .int .i64 26] (.int .i64 ((z : Nat) : Int)) [curE c i1 h1]) (hx : k < z) {d i2 : Nat} {h2 : Int} (kd : CT Tryz.prog 24 [curE c i1 h1] [.ptr 1 0 0, .int .i64 8] (.int .i64 ((d : Nat) : Int)) [curE c i2 h2]) (hd : d = 2) {i3 : Nat} {h3 : Int} (kg : CT Tryz.prog 57 [curE c i2 h2] [.ptr 1 0 0, .int .i64 3] (.bool true) [curE c i3 h3]) (ha : x.ask = false)
 (hQ0 : ∀ S1, LeP 2 S1 ⟨[(0, .ptr 1 0 0), (2, .ptr 2 0 0), (3, .int .i64 ((K : Nat) : Int)), (4, .ptr 3 0 0), (5, .int .i64 ((k + 1 : Nat) : Int))], [(1, some (curE c i3 h3)), (2, some (.box [.int .i64 0, .int .i64 0, .bool false, .val nilV, .val nilV, .val nilV, .val nilV, .int .i64 0, .bool false, .val nilV, .val nilV])), (3, some (coB (ho : Int) (K : Int) (z0g (z0j ho) 16) (givC K x).ts (givC K x).s.ty (givC K x).ask 4 5 6 7)), (4, some (.row 8 (slE (givC K x).s.se))), (5, some (.row 1 (ntE (givC K x).s.tr))), (6, some (.row 1 (strE (givC K x).vo))), (7, some (.row 1 (boE (givC K x).dn)))], 8⟩ → Q .normal S1) :
 W Tryz.prog ttA 2 z2N Q ⟨[(0, .ptr 1 0 0), (2, .ptr 2 0 0), (3, .int .i64 ((K : Nat) : Int)), (4, .ptr 3 0 0), (5, .int .i64 ((k : Nat) : Int))], [(1, some (curE c i h)), (2, some (.box [.int .i64 0, .int .i64 0, .bool false, .val nilV, .val nilV, .val nilV, .val nilV, .int .i64 0, .bool false, .val nilV, .val nilV])), (3, some (coB (ho : Int) (K : Int) (z0g (z0j ho) 16) (x).ts (x).s.ty (x).ask 4 5 6 7)), (4, some (.row 8 (slE (x).s.se))), (5, some (.row 1 (ntE (x).s.tr))), (6, some (.row 1 (strE (x).vo))), (7, some (.row 1 (boE (x).dn)))], 8⟩ := by
 have f1 : ((k : Nat) : Int) < ((z : Nat) : Int) := by omega
 have m0 : ¬ ((d : Nat) : Int) = 0 := by omega
 have m1 : ¬ ((d : Nat) : Int) = 1 := by omega
 have m2 : ((d : Nat) : Int) = 2 := by omega
 have cB := za8 (ho : Int) K (z0g (z0j ho) 16) x ha
 have eB : givC K x = x := if_neg (by rw [ha]; decide)
 rw [eB] at hQ0
 clear g
 unfold coH coB at *
 conv => arg 4; whnf
 repeat ((try conv => whnf); first | (with_reducible first | refine z0c (fun Qs hN hE hR => ?_) | refine z0a ?_ | refine z03 (fun Qb kN kE kX kR => ?_) | refine z06 ?_ | refine z07 ?_ | refine z0b ?_ | refine z08 ?_ | refine z09 ?_ | (show W _ _ _ (.cond _ _ _) _ _; refine z05 rfl ?_) | (refine hN _ ?_; try clear hN hE hR Qs; (try (conv => arg 6; dsimp only [ovl, List.set, List.map, ren0]))) | ((first | refine hE _ _ ?_ | refine hR _ ?_); try clear hN hE hR Qs) | ((first | refine kN _ ?_ | refine kE _ ?_ | refine kX _ _ rfl ?_ | refine kR _ ?_); try clear kN kE kX kR Qb)) | (refine ccB ([1]) (kx) ?_) | (refine z0k f1 ?_) | (refine ccB ([1]) (kd) ?_) | (refine z0o m0 ?_) | (refine z0o m1 ?_) | (refine z0k m2 ?_) | (refine ccB ([1]) (kg) ?_) | (refine ccB ([3, 4, 5, 6, 7]) (cB) ?_) | (refine And.intro (by kernel_rfl) ?_) | (refine stpQ ?_))
 refine hQ0 _ ?_
 (refine z02 (by rfl) ?_ ?_) <;> (repeat' (first | (exact eqA) | (refine And.intro ?_ ?_) | ((fail_if_success (with_reducible (show _ = _))); (show _ = _)))) <;> first | rfl | omega
theorem rdGo (Q : Pst) (c : Bs) (ho K k i : Nat) (h : Int) (hh : ho ≤ 2) (hK : K ≤ 2) (hk : k ≤ 30) (x : Co) (g : CoOk ho K k x) {z i1 : Nat} {h1 : Int} (kx : CT Tryz.prog 24 [curE c i h] [.ptr 1 0 0, .int .i64 26] (.int .i64 ((z : Nat) : Int)) [curE c i1 h1]) (hx : k < z) {d i2 : Nat} {h2 : Int} (kd : CT Tryz.prog 24 [curE c i1 h1] [.ptr 1 0 0, .int .i64 8] (.int .i64 ((d : Nat) : Int)) [curE c i2 h2]) (hd : d = 2) {i3 : Nat} {h3 : Int} (kg : CT Tryz.prog 57 [curE c i2 h2] [.ptr 1 0 0, .int .i64 3] (.bool false) [curE c i3 h3])
 (hQ0 : ∀ S1, LeP 2 S1 ⟨[(0, .ptr 1 0 0), (2, .ptr 2 0 0), (3, .int .i64 ((K : Nat) : Int)), (4, .ptr 3 0 0), (5, .int .i64 ((k + 1 : Nat) : Int))], [(1, some (curE c i3 h3)), (2, some (.box [.int .i64 0, .int .i64 0, .bool false, .val nilV, .val nilV, .val nilV, .val nilV, .int .i64 0, .bool false, .val nilV, .val nilV])), (3, some (coB (ho : Int) (K : Int) (z0g (z0j ho) 16) (x).ts (x).s.ty (x).ask 4 5 6 7)), (4, some (.row 8 (slE (x).s.se))), (5, some (.row 1 (ntE (x).s.tr))), (6, some (.row 1 (strE (x).vo))), (7, some (.row 1 (boE (x).dn)))], 8⟩ → Q .normal S1) :
 W Tryz.prog ttA 2 z2N Q ⟨[(0, .ptr 1 0 0), (2, .ptr 2 0 0), (3, .int .i64 ((K : Nat) : Int)), (4, .ptr 3 0 0), (5, .int .i64 ((k : Nat) : Int))], [(1, some (curE c i h)), (2, some (.box [.int .i64 0, .int .i64 0, .bool false, .val nilV, .val nilV, .val nilV, .val nilV, .int .i64 0, .bool false, .val nilV, .val nilV])), (3, some (coB (ho : Int) (K : Int) (z0g (z0j ho) 16) (x).ts (x).s.ty (x).ask 4 5 6 7)), (4, some (.row 8 (slE (x).s.se))), (5, some (.row 1 (ntE (x).s.tr))), (6, some (.row 1 (strE (x).vo))), (7, some (.row 1 (boE (x).dn)))], 8⟩ := by
 have f1 : ((k : Nat) : Int) < ((z : Nat) : Int) := by omega
 have m0 : ¬ ((d : Nat) : Int) = 0 := by omega
 have m1 : ¬ ((d : Nat) : Int) = 1 := by omega
 have m2 : ((d : Nat) : Int) = 2 := by omega
 clear g
 unfold coH coB at *
 conv => arg 4; whnf
 repeat ((try conv => whnf); first | (with_reducible first | refine z0c (fun Qs hN hE hR => ?_) | refine z0a ?_ | refine z03 (fun Qb kN kE kX kR => ?_) | refine z06 ?_ | refine z07 ?_ | refine z0b ?_ | refine z08 ?_ | refine z09 ?_ | (show W _ _ _ (.cond _ _ _) _ _; refine z05 rfl ?_) | (refine hN _ ?_; try clear hN hE hR Qs; (try (conv => arg 6; dsimp only [ovl, List.set, List.map, ren0]))) | ((first | refine hE _ _ ?_ | refine hR _ ?_); try clear hN hE hR Qs) | ((first | refine kN _ ?_ | refine kE _ ?_ | refine kX _ _ rfl ?_ | refine kR _ ?_); try clear kN kE kX kR Qb)) | (refine ccB ([1]) (kx) ?_) | (refine z0k f1 ?_) | (refine ccB ([1]) (kd) ?_) | (refine z0o m0 ?_) | (refine z0o m1 ?_) | (refine z0k m2 ?_) | (refine ccB ([1]) (kg) ?_) | (refine And.intro (by kernel_rfl) ?_) | (refine stpQ ?_))
 refine hQ0 _ ?_
 (refine z02 (by rfl) ?_ ?_) <;> (repeat' (first | (exact eqA) | (refine And.intro ?_ ?_) | ((fail_if_success (with_reducible (show _ = _))); (show _ = _)))) <;> first | rfl | omega
end
end Go.Proofs.YtkjjacndfieeoaaGreatDoor
