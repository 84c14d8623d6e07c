/- Functions by content: the program copies a shard, writes a record; what is told otherwise. -/
import Derived.Test.YthbdlnogojcnmaaGreatDoorDki
import Derived.Test.YthbdlnogojcnmaaGreatDoorSrx
import Derived.Test.YthbdlnogojcnmaaGreatDoorSva
import Derived.Test.YthbdlnogojcnmaaGreatDoorGg
namespace Go.Proofs.YthbdlnogojcnmaaGreatDoor
set_option maxRecDepth 100000
set_option maxHeartbeats 16000000
set_option linter.unusedVariables false
set_option linter.unusedSimpArgs false
set_option linter.unusedSectionVars false
open Go.RowKit Pl
theorem zhs (v : List Lf) : vwE [v] = [[.sl 2 (lvE v)]] := rfl
section
attribute [local irreducible] z0p z0r z0y AnsP LeP W CvE z0J
theorem z9h (vs : List (List Lf)) (h : vs.length ≤ 1000) (hv : ∀ v ∈ vs, v.length ≤ 1000) : CT Tryz.prog 103 [] [.sl 1 (vwE vs)] (.ref 1) [.row 1 (vwE vs)] := by
 have hl := z4i vs
 refine z01 z0l 1 rfl Tryz.func103 rfl rfl rfl ?_
 conv => arg 6; whnf
 repeat ((try conv => whnf); first | (with_reducible first | refine z0e (fun Qs hN hE hR => ?_) | refine z0c ?_ | refine z05 (fun Qb kN kE kX kR => ?_) | refine z07 ?_ | refine z08 ?_ | refine z0d ?_ | refine z09 ?_ | refine z0a ?_ | (show W _ _ _ (.cond _ _ _) _ _; refine z06 rfl ?_) | (refine hN _ ?_; try clear hN hE hR Qs; (try (conv => arg 6; dsimp only [ovl, List.set, List.map, ren0]))) | ((first | refine hE _ _ ?_ | refine hR _ ?_); try clear hN hE hR Qs) | ((first | refine kN _ ?_ | refine kE _ ?_ | refine kX _ _ rfl ?_ | refine kR _ ?_); try clear kN kE kX kR Qb)) | (refine Exists.intro vs.length (And.intro hl ?_)) | (refine And.intro (by kernel_rfl) ?_) | (refine stpQ ?_))
 refine z22 Nat (fun i => ⟨[(3, .ref 1), (6, .sl 1 (vwE vs)), (7, .int .i64 ((vs.length : Nat) : Int)), (8, .int .i64 (i : Int))], [(1, some (.row 1 (vwE (vs.take i))))], 2⟩) (fun i => i ≤ vs.length) (fun i => vs.length - i) 0 (Nat.zero_le _) ?_ ?_
 ·(refine z04 (by rfl) ?_ ?_) <;> (repeat' (first | (exact eqA) | (refine And.intro ?_ ?_) | ((fail_if_success (with_reducible (show _ = _))); (show _ = _)))) <;> first | rfl | decide
 ·intro Q1 hQ1 i hi
  by_cases hlt : i < vs.length
  ·have f1 : (i : Int) < ((vs.length : Nat) : Int) := by omega
   have gi := z4U hlt
   have hn := z7X vs i hlt
   have hv2 : (vAt vs i).length ≤ 1000 := by rw [zcw hlt]; exact hv _ (List.getElem_mem hlt)
   have hw : (vwE (vs.take i)).length ≤ 1000 := by rw [z4i, List.length_take]; omega
   have c1 := z1C (vAt vs i) (by omega)
   generalize vAt vs i = v at *
   repeat ((try conv => whnf); first | (with_reducible first | refine z0e (fun Qs hN hE hR => ?_) | refine z0c ?_ | refine z05 (fun Qb kN kE kX kR => ?_) | refine z07 ?_ | refine z08 ?_ | refine z0d ?_ | refine z09 ?_ | refine z0a ?_ | (show W _ _ _ (.cond _ _ _) _ _; refine z06 rfl ?_) | (refine hN _ ?_; try clear hN hE hR Qs; (try (conv => arg 6; dsimp only [ovl, List.set, List.map, ren0]))) | ((first | refine hE _ _ ?_ | refine hR _ ?_); try clear hN hE hR Qs) | ((first | refine kN _ ?_ | refine kE _ ?_ | refine kX _ _ rfl ?_ | refine kR _ ?_); try clear kN kE kX kR Qb)) | (refine z0g f1 ?_) | (refine i_at gi ?_) | (refine ccA ([]) (c1) ?_) | (refine And.intro (by simp only [List.length_append, List.length_set, List.length_replicate, List.length_cons, List.length_nil, List.nil_append]; omega) ?_) | (refine And.intro (by kernel_rfl) ?_) | (refine stpQ ?_))
   refine ⟨i + 1, hlt, by (try dsimp only); omega, ?_⟩
   (try dsimp only)
   rw [hn, zek, zhs]
   (refine z04 (by rfl) ?_ ?_) <;> (repeat' (first | (exact eqA) | (refine And.intro ?_ ?_) | ((fail_if_success (with_reducible (show _ = _))); (show _ = _)))) <;> rfl
  ·obtain rfl : i = vs.length := by omega
   have f1 : ¬ ((vs.length : Nat) : Int) < ((vs.length : Nat) : Int) := by omega
   rw [List.take_length]
   repeat ((try conv => whnf); first | (with_reducible first | refine z0e (fun Qs hN hE hR => ?_) | refine z0c ?_ | refine z05 (fun Qb kN kE kX kR => ?_) | refine z07 ?_ | refine z08 ?_ | refine z0d ?_ | refine z09 ?_ | refine z0a ?_ | (show W _ _ _ (.cond _ _ _) _ _; refine z06 rfl ?_) | (refine hN _ ?_; try clear hN hE hR Qs; (try (conv => arg 6; dsimp only [ovl, List.set, List.map, ren0]))) | ((first | refine hE _ _ ?_ | refine hR _ ?_); try clear hN hE hR Qs) | ((first | refine kN _ ?_ | refine kE _ ?_ | refine kX _ _ rfl ?_ | refine kR _ ?_); try clear kN kE kX kR Qb)) | (refine z0b f1 ?_) | (refine And.intro (by kernel_rfl) ?_) | (refine stpQ ?_))
   refine hQ1 _ _ ?_
   clear hQ1 Q1
   repeat ((try conv => whnf); first | (with_reducible first | refine z0e (fun Qs hN hE hR => ?_) | refine z0c ?_ | refine z05 (fun Qb kN kE kX kR => ?_) | refine z07 ?_ | refine z08 ?_ | refine z0d ?_ | refine z09 ?_ | refine z0a ?_ | (show W _ _ _ (.cond _ _ _) _ _; refine z06 rfl ?_) | (refine hN _ ?_; try clear hN hE hR Qs; (try (conv => arg 6; dsimp only [ovl, List.set, List.map, ren0]))) | ((first | refine hE _ _ ?_ | refine hR _ ?_); try clear hN hE hR Qs) | ((first | refine kN _ ?_ | refine kE _ ?_ | refine kX _ _ rfl ?_ | refine kR _ ?_); try clear kN kE kX kR Qb)) | (refine And.intro (by kernel_rfl) ?_) | (refine stpQ ?_))
   (refine z00 (by rfl) ?_ ?_ (by rfl)) <;> (repeat' (first | (exact eqA) | (refine And.intro ?_ ?_) | ((fail_if_success (with_reducible (show _ = _))); (show _ = _)))) <;> first | rfl | decide
theorem zav (l : List Fl) (h : (l.length : Int) ≤ 100000000) : CT Tryz.prog 98 [] [.agg [.sl 3 (flE l)]] (.agg [.sl 3 (flE l)]) [] := by
 have hl := z1W l
 refine z01 z0l 1 rfl Tryz.func98 rfl rfl rfl ?_
 conv => arg 6; whnf
 repeat ((try conv => whnf); first | (with_reducible first | refine z0e (fun Qs hN hE hR => ?_) | refine z0c ?_ | refine z05 (fun Qb kN kE kX kR => ?_) | refine z07 ?_ | refine z08 ?_ | refine z0d ?_ | refine z09 ?_ | refine z0a ?_ | (show W _ _ _ (.cond _ _ _) _ _; refine z06 rfl ?_) | (refine hN _ ?_; try clear hN hE hR Qs; (try (conv => arg 6; dsimp only [ovl, List.set, List.map, ren0]))) | ((first | refine hE _ _ ?_ | refine hR _ ?_); try clear hN hE hR Qs) | ((first | refine kN _ ?_ | refine kE _ ?_ | refine kX _ _ rfl ?_ | refine kR _ ?_); try clear kN kE kX kR Qb)) | (refine And.intro (by simp only [List.length_append, List.length_cons, List.length_nil, List.nil_append, List.length_replicate]; omega) ?_) | (refine And.intro (by kernel_rfl) ?_) | (refine stpQ ?_))
 (refine z00 (by rfl) ?_ ?_ (by rfl)) <;> (repeat' (first | (exact eqA) | (refine And.intro ?_ ?_) | ((fail_if_success (with_reducible (show _ = _))); (show _ = _))))
theorem z6h (a K : Int) (up : Bool) (fs : List Fl) (s : Sv) (hf : fs.length ≤ 1000) (h : s.vs.length ≤ 1000 ∧ s.tk.length ≤ 1000 ∧ s.al.length ≤ 1000 ∧ ∀ v ∈ s.vs, v.length ≤ 1000) : CT Tryz.prog 56 [] [.agg (svE a K up fs (vwE s.vs) s)] (svR a K up fs s) (svRw s) := by
 obtain ⟨ep, vs, tk, al, re, rt, rk⟩ := s
 unfold svR svRw svE
 simp only at h ⊢
 obtain ⟨h1, h2, h3, h4⟩ := h
 have c1 := zav fs (by omega)
 have c2 := z9h vs h1 h4
 have l1 := z4i vs
 have l2 := z4T tk
 have l3 := z0D al
 have l4 := z1W fs
 generalize flE fs = F at *
 generalize vwE vs = V at *
 refine z01 z0j 1 rfl Tryz.func56 rfl rfl rfl ?_
 conv => arg 6; whnf
 repeat ((try conv => whnf); first | (with_reducible first | refine z0e (fun Qs hN hE hR => ?_) | refine z0c ?_ | refine z05 (fun Qb kN kE kX kR => ?_) | refine z07 ?_ | refine z08 ?_ | refine z0d ?_ | refine z09 ?_ | refine z0a ?_ | (show W _ _ _ (.cond _ _ _) _ _; refine z06 rfl ?_) | (refine hN _ ?_; try clear hN hE hR Qs; (try (conv => arg 6; dsimp only [ovl, List.set, List.map, ren0]))) | ((first | refine hE _ _ ?_ | refine hR _ ?_); try clear hN hE hR Qs) | ((first | refine kN _ ?_ | refine kE _ ?_ | refine kX _ _ rfl ?_ | refine kR _ ?_); try clear kN kE kX kR Qb)) | (refine ccA ([]) (c1) ?_) | (refine ccA ([]) (c2) ?_) | (refine And.intro (by simp only [List.length_append, List.length_set, List.length_replicate, List.length_cons, List.length_nil, List.nil_append]; omega) ?_) | (refine And.intro (by kernel_rfl) ?_) | (refine stpQ ?_))
 (refine z00 (by rfl) ?_ ?_ (by rfl)) <;> (repeat' (first | (exact eqA) | (refine And.intro ?_ ?_) | ((fail_if_success (with_reducible (show _ = _))); (show _ = _)))) <;> first | rfl | (simp; done) | decide
theorem zeQ (n t : Bs) (ts : List Bs) (hn : 1 ≤ n.length ∧ n.length ≤ 8) (hx : n ≠ [110, 101, 119]) (ht : 1 ≤ t.length ∧ t.length ≤ 200) (h : Rec 89 ts) : CT Tryz.prog 60 [] [.agg [.sl 3 (flE (dkOf n ts))], .str n, .str t] (.tup [.agg [.sl 3 (flE (dkOf n (ts ++ [t])))], .bool true]) [] := by
 have c1 := zcG n t hn hx (by omega)
 have c2 := zeP n t ts hn ht h
 have hac : (acE n (z0N t)).length = 2 := rfl
 generalize acE n (z0N t) = A at *
 generalize flE (dkOf n (ts ++ [t])) = d2 at *
 generalize flE (dkOf n ts) = d0 at *
 have f2 : (2 : Int) = ((2 : Nat) : Int) := rfl
 clear h hn ht hx
 refine z01 z0j 1 rfl Tryz.func60 rfl rfl rfl ?_
 conv => arg 6; whnf
 repeat ((try conv => whnf); first | (with_reducible first | refine z0e (fun Qs hN hE hR => ?_) | refine z0c ?_ | refine z05 (fun Qb kN kE kX kR => ?_) | refine z07 ?_ | refine z08 ?_ | refine z0d ?_ | refine z09 ?_ | refine z0a ?_ | (show W _ _ _ (.cond _ _ _) _ _; refine z06 rfl ?_) | (refine hN _ ?_; try clear hN hE hR Qs; (try (conv => arg 6; dsimp only [ovl, List.set, List.map, ren0]))) | ((first | refine hE _ _ ?_ | refine hR _ ?_); try clear hN hE hR Qs) | ((first | refine kN _ ?_ | refine kE _ ?_ | refine kX _ _ rfl ?_ | refine kR _ ?_); try clear kN kE kX kR Qb)) | (refine ccA ([]) (c1) ?_) | (refine ccA ([]) (c2) ?_) | (refine Exists.intro 2 (And.intro hac ?_)) | (refine z0g f2 ?_) | (refine And.intro (by kernel_rfl) ?_) | (refine stpQ ?_))
 (refine z00 (by rfl) ?_ ?_ (by rfl)) <;> (repeat' (first | (exact eqA) | (refine And.intro ?_ ?_) | ((fail_if_success (with_reducible (show _ = _))); (show _ = _)))) <;> rfl
theorem zbJ (n : Bs) (k : UInt8) (ns : List Nat) (ts : List Bs) (hl : ns.length ≤ 3) (hns : ∀ x ∈ ns, x ≤ 1000000) (hn : 1 ≤ n.length ∧ n.length ≤ 8) (hx : n ≠ [110, 101, 119]) (ht : 1 ≤ (recB k ns).length ∧ (recB k ns).length ≤ 200) (h : Rec 89 ts) : CT Tryz.prog 65 [] [.agg [.sl 3 (flE (dkOf n ts))], .str n, .int .u8 ((k.toNat : Nat) : Int), .sl 1 (ntE ns)] (.tup [.agg [.sl 3 (flE (dkOf n (ts ++ [recB k ns])))], .bool true]) [] := by
 have c1 := zfS k ns hl hns
 have c2 := zeQ n (recB k ns) ts hn hx ht h
 generalize flE (dkOf n (ts ++ [recB k ns])) = d2 at *
 generalize flE (dkOf n ts) = d0 at *
 generalize recB k ns = r at *
 clear h hn ht hx
 refine z01 z0j 1 rfl Tryz.func65 rfl rfl rfl ?_
 conv => arg 6; whnf
 repeat ((try conv => whnf); first | (with_reducible first | refine z0e (fun Qs hN hE hR => ?_) | refine z0c ?_ | refine z05 (fun Qb kN kE kX kR => ?_) | refine z07 ?_ | refine z08 ?_ | refine z0d ?_ | refine z09 ?_ | refine z0a ?_ | (show W _ _ _ (.cond _ _ _) _ _; refine z06 rfl ?_) | (refine hN _ ?_; try clear hN hE hR Qs; (try (conv => arg 6; dsimp only [ovl, List.set, List.map, ren0]))) | ((first | refine hE _ _ ?_ | refine hR _ ?_); try clear hN hE hR Qs) | ((first | refine kN _ ?_ | refine kE _ ?_ | refine kX _ _ rfl ?_ | refine kR _ ?_); try clear kN kE kX kR Qb)) | (refine ccA ([]) (c1) ?_) | (refine ccA ([]) (c2) ?_) | (refine And.intro (by kernel_rfl) ?_) | (refine stpQ ?_))
 (refine z00 (by rfl) ?_ ?_ (by rfl)) <;> (repeat' (first | (exact eqA) | (refine And.intro ?_ ?_) | ((fail_if_success (with_reducible (show _ = _))); (show _ = _)))) <;> rfl
end
end Go.Proofs.YthbdlnogojcnmaaGreatDoor
