/- Functions by content: the reference puts files, acts on disks, writes records down. Functions by content: the reference does acts, and writes records into logs. Functions by content: the reference writes records into logs. -/
import Derived.Test.YtfjbinbpgdiafaaGreatDoorTyL
import Derived.Test.YtfjbinbpgdiafaaGreatDoorPlsv
import Derived.Test.YtfjbinbpgdiafaaGreatDoorLgu
import Derived.Test.YtfjbinbpgdiafaaGreatDoorSvw
namespace Go.Proofs.YtfjbinbpgdiafaaGreatDoor
set_option linter.unusedVariables false
set_option linter.unusedSimpArgs false
set_option linter.unusedSectionVars false
open Go.RowKit Pl
section
attribute [local irreducible] z0r z0s z0z AnsP LeP W
theorem ze3 (a b : List Fl) : flE (a ++ b) = flE a ++ flE b := by simp [flE]
set_option maxRecDepth 100000 in
set_option maxHeartbeats 8000000 in
theorem z7O (l : List Fl) (f : Fl) (hl : l.length ≤ 1000) : CT Tryz.prog 187 [] [.agg [.sl 3 (flE (l))], .agg [.str f.1, .str f.2.1, .int .i64 f.2.2]] (.agg [.ref 1]) [.row 3 (flE (putF l f))] := by
 have hlen := z2o l
 have hsn : True := trivial
 refine z01 z0i 1 rfl Tryz.func187 rfl rfl rfl ?_
 conv => arg 6; whnf
 repeat ((try conv => whnf); first | (with_reducible first | refine z0f (fun Qs hN hE hR => ?_) | refine z0d ?_ | refine z04 (fun Qb kN kE kX kR => ?_) | refine z06 ?_ | refine z07 ?_ | refine z0e ?_ | refine z08 ?_ | refine z09 ?_ | (show W _ _ _ (.cond _ _ _) _ _; refine z05 rfl ?_) | (refine hN _ ?_; try clear hN hE hR Qs) | ((first | refine hE _ _ ?_ | refine hR _ ?_); try clear hN hE hR Qs) | ((first | refine kN _ ?_ | refine kE _ ?_ | refine kX _ _ rfl ?_ | refine kR _ ?_); try clear kN kE kX kR Qb)) | (refine stpQ ?_))
 refine z0l 0 ⟨[(2, .ptr 1 0 0), (3, .ptr 2 0 0), (4, .ptr 3 0 0), (5, .ptr 4 0 0)], [(1, some (.box [.sl 3 (flE l)])), (2, some (.box [.str f.1, .str f.2.1, .int .i64 f.2.2])), (3, some (.box [.val nilV])), (4, some (.box [.ref 5])), (5, some (.row 3 (flE (l.filter (loB f.1)))))], 6⟩ Nat (fun i => ⟨[(2, .ptr 1 0 0), (3, .ptr 2 0 0), (4, .ptr 3 0 0), (5, .ptr 4 0 0), (6, .int .i64 (i : Int))], [(1, some (.box [.sl 3 (flE l)])), (2, some (.box [.str f.1, .str f.2.1, .int .i64 f.2.2])), (3, some (.box [.val nilV])), (4, some (.box [.ref 5])), (5, some (.row 3 (flE ((l.take i).filter (loB f.1)))))], 6⟩) (fun i => i ≤ l.length) (fun i => l.length - i) 0 (Nat.zero_le _) ?_ ?_ ?_
 ·(refine z02 (by rfl) ?_ ?_) <;> (repeat' (first | (exact eqA) | (refine And.intro ?_ ?_) | ((fail_if_success (with_reducible (show _ = _))); (show _ = _)))) <;> first | rfl | (rw [List.take_zero, List.filter_nil, List.append_nil]; exact hsn) | (simp; done)
 ·intro i hi
  by_cases hlt : i < l.length
  ·have f1 : (i : Int) < ((flE l).length : Int) := by omega
   have f2 : i < (flE l).length := by omega
   have gi := z2p hlt
   have hn := z66 (loB f.1) hlt
   have hfl := List.length_filter_le (loB f.1) (l.take i)
   have hfe := z2o ((l.take i).filter (loB f.1))
   have htk : (l.take i).length ≤ l.length := by rw [List.length_take]; omega
   (try simp only [List.length_append, List.length_singleton] at hfe)
   by_cases hp : loB f.1 (flAt l i) = true
   ·rw [if_pos hp] at hn
    have hc : (Op.bytesLess (flAt l i).1 f.1) = true := hp
    clear hp
    repeat ((try conv => whnf); first | (with_reducible first | refine z0f (fun Qs hN hE hR => ?_) | refine z0d ?_ | refine z04 (fun Qb kN kE kX kR => ?_) | refine z06 ?_ | refine z07 ?_ | refine z0e ?_ | refine z08 ?_ | refine z09 ?_ | (show W _ _ _ (.cond _ _ _) _ _; refine z05 rfl ?_) | (refine hN _ ?_; try clear hN hE hR Qs) | ((first | refine hE _ _ ?_ | refine hR _ ?_); try clear hN hE hR Qs) | ((first | refine kN _ ?_ | refine kE _ ?_ | refine kX _ _ rfl ?_ | refine kR _ ?_); try clear kN kE kX kR Qb)) | (refine z0h f1 ?_) | (refine i_at gi ?_) | (refine And.intro f2 ?_) | (refine Exists.intro _ (And.intro gi ?_)) | (refine cb_t hc ?_) | (refine And.intro (by simp only [List.length_append, List.length_set, List.length_replicate, List.length_cons, List.length_nil]; omega) ?_) | (refine And.intro (by kernel_rfl) ?_) | (refine stpQ ?_))
    refine ⟨i + 1, (by (try dsimp only); omega), (by (try dsimp only); omega), ?_⟩
    simp only
    rw [hn, ze3 ((l.take i).filter (loB f.1)) [flAt l i]]
    (refine z02 (by rfl) ?_ ?_) <;> (repeat' (first | (exact eqA) | (refine And.intro ?_ ?_) | ((fail_if_success (with_reducible (show _ = _))); (show _ = _)))) <;> rfl
   ·rw [if_neg hp, List.append_nil] at hn
    have hc : (Op.bytesLess (flAt l i).1 f.1) = false := by rw [loB] at hp; simpa using hp
    clear hp
    repeat ((try conv => whnf); first | (with_reducible first | refine z0f (fun Qs hN hE hR => ?_) | refine z0d ?_ | refine z04 (fun Qb kN kE kX kR => ?_) | refine z06 ?_ | refine z07 ?_ | refine z0e ?_ | refine z08 ?_ | refine z09 ?_ | (show W _ _ _ (.cond _ _ _) _ _; refine z05 rfl ?_) | (refine hN _ ?_; try clear hN hE hR Qs) | ((first | refine hE _ _ ?_ | refine hR _ ?_); try clear hN hE hR Qs) | ((first | refine kN _ ?_ | refine kE _ ?_ | refine kX _ _ rfl ?_ | refine kR _ ?_); try clear kN kE kX kR Qb)) | (refine z0h f1 ?_) | (refine i_at gi ?_) | (refine And.intro f2 ?_) | (refine Exists.intro _ (And.intro gi ?_)) | (refine cb_f hc ?_) | (refine And.intro (by kernel_rfl) ?_) | (refine stpQ ?_))
    refine ⟨i + 1, (by (try dsimp only); omega), (by (try dsimp only); omega), ?_⟩
    simp only
    rw [hn]
    (refine z02 (by rfl) ?_ ?_) <;> (repeat' (first | (exact eqA) | (refine And.intro ?_ ?_) | ((fail_if_success (with_reducible (show _ = _))); (show _ = _)))) <;> rfl
  ·obtain rfl : i = l.length := by omega
   have f1 : ¬ (l.length : Int) < ((flE l).length : Int) := by omega
   repeat ((try conv => whnf); first | (with_reducible first | refine z0f (fun Qs hN hE hR => ?_) | refine z0d ?_ | refine z04 (fun Qb kN kE kX kR => ?_) | refine z06 ?_ | refine z07 ?_ | refine z0e ?_ | refine z08 ?_ | refine z09 ?_ | (show W _ _ _ (.cond _ _ _) _ _; refine z05 rfl ?_) | (refine hN _ ?_; try clear hN hE hR Qs) | ((first | refine hE _ _ ?_ | refine hR _ ?_); try clear hN hE hR Qs) | ((first | refine kN _ ?_ | refine kE _ ?_ | refine kX _ _ rfl ?_ | refine kR _ ?_); try clear kN kE kX kR Qb)) | (refine z0c f1 ?_) | (refine And.intro (by kernel_rfl) ?_) | (refine stpQ ?_))
   rw [List.take_length]
   (refine z02 (by rfl) ?_ ?_) <;> (repeat' (first | (exact eqA) | (refine And.intro ?_ ?_) | ((fail_if_success (with_reducible (show _ = _))); (show _ = _)))) <;> rfl
 have hfl1 := List.length_filter_le (loB f.1) l
 have hfe1 := z2o (l.filter (loB f.1))
 have hsn : flE (l.filter (loB f.1)) ++ [[.str f.1, .str f.2.1, .int .i64 f.2.2]] = flE (l.filter (loB f.1) ++ [f]) := by rw [ze3]; rfl
 repeat ((try conv => whnf); first | (with_reducible first | refine z0f (fun Qs hN hE hR => ?_) | refine z0d ?_ | refine z04 (fun Qb kN kE kX kR => ?_) | refine z06 ?_ | refine z07 ?_ | refine z0e ?_ | refine z08 ?_ | refine z09 ?_ | (show W _ _ _ (.cond _ _ _) _ _; refine z05 rfl ?_) | (refine hN _ ?_; try clear hN hE hR Qs) | ((first | refine hE _ _ ?_ | refine hR _ ?_); try clear hN hE hR Qs) | ((first | refine kN _ ?_ | refine kE _ ?_ | refine kX _ _ rfl ?_ | refine kR _ ?_); try clear kN kE kX kR Qb)) | (refine And.intro (by simp only [List.length_append, List.length_set, List.length_replicate, List.length_cons, List.length_nil]; omega) ?_) | (refine And.intro (by kernel_rfl) ?_) | (refine stpQ ?_))
 refine z0l 2 ⟨[(2, .ptr 1 0 0), (3, .ptr 2 0 0), (4, .ptr 3 0 0), (5, .ptr 4 0 0)], [(1, some (.box [.sl 3 (flE l)])), (2, some (.box [.str f.1, .str f.2.1, .int .i64 f.2.2])), (3, some (.box [.val nilV])), (4, some (.box [.ref 5])), (5, some (.row 3 (flE (l.filter (loB f.1) ++ [f] ++ l.filter (upB f.1)))))], 6⟩ Nat (fun i => ⟨[(2, .ptr 1 0 0), (3, .ptr 2 0 0), (4, .ptr 3 0 0), (5, .ptr 4 0 0), (7, .int .i64 (i : Int))], [(1, some (.box [.sl 3 (flE l)])), (2, some (.box [.str f.1, .str f.2.1, .int .i64 f.2.2])), (3, some (.box [.val nilV])), (4, some (.box [.ref 5])), (5, some (.row 3 (flE (l.filter (loB f.1) ++ [f] ++ (l.take i).filter (upB f.1)))))], 6⟩) (fun i => i ≤ l.length) (fun i => l.length - i) 0 (Nat.zero_le _) ?_ ?_ ?_
 ·(refine z02 (by rfl) ?_ ?_) <;> (repeat' (first | (exact eqA) | (refine And.intro ?_ ?_) | ((fail_if_success (with_reducible (show _ = _))); (show _ = _)))) <;> first | rfl | (rw [List.take_zero, List.filter_nil, List.append_nil]; exact hsn) | (simp; done)
 ·intro i hi
  by_cases hlt : i < l.length
  ·have f1 : (i : Int) < ((flE l).length : Int) := by omega
   have f2 : i < (flE l).length := by omega
   have gi := z2p hlt
   have hn := z66 (upB f.1) hlt
   have hfl := List.length_filter_le (upB f.1) (l.take i)
   have hfe := z2o (l.filter (loB f.1) ++ [f] ++ (l.take i).filter (upB f.1))
   have htk : (l.take i).length ≤ l.length := by rw [List.length_take]; omega
   (try simp only [List.length_append, List.length_singleton] at hfe)
   by_cases hp : upB f.1 (flAt l i) = true
   ·rw [if_pos hp] at hn
    have hc : (!(Op.bytesLess (flAt l i).1 f.1 || decide ((flAt l i).1 = f.1))) = true := hp
    clear hp
    repeat ((try conv => whnf); first | (with_reducible first | refine z0f (fun Qs hN hE hR => ?_) | refine z0d ?_ | refine z04 (fun Qb kN kE kX kR => ?_) | refine z06 ?_ | refine z07 ?_ | refine z0e ?_ | refine z08 ?_ | refine z09 ?_ | (show W _ _ _ (.cond _ _ _) _ _; refine z05 rfl ?_) | (refine hN _ ?_; try clear hN hE hR Qs) | ((first | refine hE _ _ ?_ | refine hR _ ?_); try clear hN hE hR Qs) | ((first | refine kN _ ?_ | refine kE _ ?_ | refine kX _ _ rfl ?_ | refine kR _ ?_); try clear kN kE kX kR Qb)) | (refine z0h f1 ?_) | (refine i_at gi ?_) | (refine And.intro f2 ?_) | (refine Exists.intro _ (And.intro gi ?_)) | (refine cb_t hc ?_) | (refine And.intro (by simp only [List.length_append, List.length_set, List.length_replicate, List.length_cons, List.length_nil]; omega) ?_) | (refine And.intro (by kernel_rfl) ?_) | (refine stpQ ?_))
    refine ⟨i + 1, (by (try dsimp only); omega), (by (try dsimp only); omega), ?_⟩
    simp only
    rw [hn, ← List.append_assoc, ze3 (l.filter (loB f.1) ++ [f] ++ (l.take i).filter (upB f.1)) [flAt l i]]
    (refine z02 (by rfl) ?_ ?_) <;> (repeat' (first | (exact eqA) | (refine And.intro ?_ ?_) | ((fail_if_success (with_reducible (show _ = _))); (show _ = _)))) <;> rfl
   ·rw [if_neg hp, List.append_nil] at hn
    have hc : (!(Op.bytesLess (flAt l i).1 f.1 || decide ((flAt l i).1 = f.1))) = false := by rw [upB] at hp; simpa using hp
    clear hp
    repeat ((try conv => whnf); first | (with_reducible first | refine z0f (fun Qs hN hE hR => ?_) | refine z0d ?_ | refine z04 (fun Qb kN kE kX kR => ?_) | refine z06 ?_ | refine z07 ?_ | refine z0e ?_ | refine z08 ?_ | refine z09 ?_ | (show W _ _ _ (.cond _ _ _) _ _; refine z05 rfl ?_) | (refine hN _ ?_; try clear hN hE hR Qs) | ((first | refine hE _ _ ?_ | refine hR _ ?_); try clear hN hE hR Qs) | ((first | refine kN _ ?_ | refine kE _ ?_ | refine kX _ _ rfl ?_ | refine kR _ ?_); try clear kN kE kX kR Qb)) | (refine z0h f1 ?_) | (refine i_at gi ?_) | (refine And.intro f2 ?_) | (refine Exists.intro _ (And.intro gi ?_)) | (refine cb_f hc ?_) | (refine And.intro (by kernel_rfl) ?_) | (refine stpQ ?_))
    refine ⟨i + 1, (by (try dsimp only); omega), (by (try dsimp only); omega), ?_⟩
    simp only
    rw [hn]
    (refine z02 (by rfl) ?_ ?_) <;> (repeat' (first | (exact eqA) | (refine And.intro ?_ ?_) | ((fail_if_success (with_reducible (show _ = _))); (show _ = _)))) <;> rfl
  ·obtain rfl : i = l.length := by omega
   have f1 : ¬ (l.length : Int) < ((flE l).length : Int) := by omega
   repeat ((try conv => whnf); first | (with_reducible first | refine z0f (fun Qs hN hE hR => ?_) | refine z0d ?_ | refine z04 (fun Qb kN kE kX kR => ?_) | refine z06 ?_ | refine z07 ?_ | refine z0e ?_ | refine z08 ?_ | refine z09 ?_ | (show W _ _ _ (.cond _ _ _) _ _; refine z05 rfl ?_) | (refine hN _ ?_; try clear hN hE hR Qs) | ((first | refine hE _ _ ?_ | refine hR _ ?_); try clear hN hE hR Qs) | ((first | refine kN _ ?_ | refine kE _ ?_ | refine kX _ _ rfl ?_ | refine kR _ ?_); try clear kN kE kX kR Qb)) | (refine z0c f1 ?_) | (refine And.intro (by kernel_rfl) ?_) | (refine stpQ ?_))
   rw [List.take_length]
   (refine z02 (by rfl) ?_ ?_) <;> (repeat' (first | (exact eqA) | (refine And.intro ?_ ?_) | ((fail_if_success (with_reducible (show _ = _))); (show _ = _)))) <;> rfl
 repeat ((try conv => whnf); first | (with_reducible first | refine z0f (fun Qs hN hE hR => ?_) | refine z0d ?_ | refine z04 (fun Qb kN kE kX kR => ?_) | refine z06 ?_ | refine z07 ?_ | refine z0e ?_ | refine z08 ?_ | refine z09 ?_ | (show W _ _ _ (.cond _ _ _) _ _; refine z05 rfl ?_) | (refine hN _ ?_; try clear hN hE hR Qs) | ((first | refine hE _ _ ?_ | refine hR _ ?_); try clear hN hE hR Qs) | ((first | refine kN _ ?_ | refine kE _ ?_ | refine kX _ _ rfl ?_ | refine kR _ ?_); try clear kN kE kX kR Qb)) | (refine stpQ ?_))
 (refine z00 (by rfl) ?_ ?_ (by rfl)) <;> (repeat' (first | (exact eqA) | (refine And.intro ?_ ?_) | ((fail_if_success (with_reducible (show _ = _))); (show _ = _)))) <;> rfl
end
end Go.Proofs.YtfjbinbpgdiafaaGreatDoor
namespace Go.Proofs.YtfjbinbpgdiafaaGreatDoor
set_option maxRecDepth 100000
set_option maxHeartbeats 8000000
set_option linter.unusedVariables false
set_option linter.unusedSimpArgs false
set_option linter.unusedSectionVars false
open Go.RowKit Pl
section
attribute [local irreducible] z0r z0s z0z AnsP LeP W
theorem z6d {l : List Fl} (h : FlB l) : za1 l := ⟨by have := h.1; omega, fun k => by have := h.2 k; omega⟩
theorem ze9 {n : Bs} (hn : 1 ≤ n.length ∧ n.length ≤ 8) : inB (n.length : Int) 1 8 = true := by simp only [inB, Bool.and_eq_true, decide_eq_true_eq]; omega
theorem zea (l : List Fl) (n t : Bs) (hd : z1t l = true) (hB : FlB l) (hn : 1 ≤ n.length ∧ n.length ≤ 8) (ht : t.length ≤ 30000) (hr : z1t (addF l n t) = true) (hrB : FlB (addF l n t)) : CT Tryz.prog 160 [] [.agg [.sl 3 (flE (l))], .agg [.int .i64 1, .str n, .str t, .str []]] (.tup [.agg [.sl 3 (flE (addF l n t))], .bool true]) [] := by
 have hlen := z2o l
 have c1 := z3h l (z6d hB)
 rw [hd] at c1
 have c2 := z6a n (by omega)
 rw [ze9 hn] at c2
 have c3 := za2 l n (by have := hB.1; omega)
 have c5 := z3h (addF l n t) (z6d hrB)
 rw [hr] at c5
 have hl1 := hB.1
 have e0 : ([] : Bs) = [] := rfl
 have n13 : ¬ (1 : Int) = 3 := by decide
 unfold addF at *
 cases hi : z1M l n with
 | some k =>
   have hk := zdR hi
   rw [hi] at c3 hr hrB c5
   simp only [ixI] at c3 hr hrB c5 ⊢
   have f1 : (k : Int) ≥ 0 := by omega
   have f2 : k < (flE l).length := by omega
   have gk := z2p hk
   have hlk := (hB.2 k).2
   have c4 := z7O l ((flAt l k).1, (flAt l k).2.1 ++ t, (flAt l k).2.2) hl1
   generalize putF l ((flAt l k).1, (flAt l k).2.1 ++ t, (flAt l k).2.2) = R at *
   simp only at c4
   clear hd hB hr hrB hi
   have e1 : (1 : Int) = 1 := rfl
   refine z01 z0i 1 rfl Tryz.func160 rfl rfl rfl ?_
   conv => arg 6; whnf
   repeat ((try conv => whnf); first | (with_reducible first | refine z0f (fun Qs hN hE hR => ?_) | refine z0d ?_ | refine z04 (fun Qb kN kE kX kR => ?_) | refine z06 ?_ | refine z07 ?_ | refine z0e ?_ | refine z08 ?_ | refine z09 ?_ | (show W _ _ _ (.cond _ _ _) _ _; refine z05 rfl ?_) | (refine hN _ ?_; try clear hN hE hR Qs) | ((first | refine hE _ _ ?_ | refine hR _ ?_); try clear hN hE hR Qs) | ((first | refine kN _ ?_ | refine kE _ ?_ | refine kX _ _ rfl ?_ | refine kR _ ?_); try clear kN kE kX kR Qb)) | (refine ccA ([]) (c1) ?_) | (refine ccA ([]) (c2) ?_) | (refine z2M n13 ?_) | (refine z1g e0 ?_) | (refine z1g e1 ?_) | (refine z0h e1 ?_) | (refine ccA ([]) (c3) ?_) | (refine z0h f1 ?_) | (refine i_at gk ?_) | (refine And.intro f2 ?_) | (refine Exists.intro _ (And.intro gk ?_)) | (refine And.intro (by simp only [List.length_append]; omega) ?_) | (refine ccA ([]) (c4) ?_) | (refine ccA ([]) (c5) ?_) | (refine And.intro (by kernel_rfl) ?_) | (refine stpQ ?_))
   (refine z00 (by rfl) ?_ ?_ (by rfl)) <;> (repeat' (first | (exact eqA) | (refine And.intro ?_ ?_) | ((fail_if_success (with_reducible (show _ = _))); (show _ = _))))
 | none =>
   rw [hi] at c3 hr hrB c5
   simp only [ixI] at c3 hr hrB c5 ⊢
   have f1 : ¬ (-1 : Int) ≥ 0 := by decide
   have c4 := z7O l (n, t, 0) hl1
   generalize putF l (n, t, 0) = R at *
   simp only at c4
   clear hd hB hr hrB hi
   have e1 : (1 : Int) = 1 := rfl
   refine z01 z0i 1 rfl Tryz.func160 rfl rfl rfl ?_
   conv => arg 6; whnf
   repeat ((try conv => whnf); first | (with_reducible first | refine z0f (fun Qs hN hE hR => ?_) | refine z0d ?_ | refine z04 (fun Qb kN kE kX kR => ?_) | refine z06 ?_ | refine z07 ?_ | refine z0e ?_ | refine z08 ?_ | refine z09 ?_ | (show W _ _ _ (.cond _ _ _) _ _; refine z05 rfl ?_) | (refine hN _ ?_; try clear hN hE hR Qs) | ((first | refine hE _ _ ?_ | refine hR _ ?_); try clear hN hE hR Qs) | ((first | refine kN _ ?_ | refine kE _ ?_ | refine kX _ _ rfl ?_ | refine kR _ ?_); try clear kN kE kX kR Qb)) | (refine ccA ([]) (c1) ?_) | (refine ccA ([]) (c2) ?_) | (refine z2M n13 ?_) | (refine z1g e0 ?_) | (refine z1g e1 ?_) | (refine z0h e1 ?_) | (refine ccA ([]) (c3) ?_) | (refine z0c f1 ?_) | (refine And.intro (by simp only [List.nil_append, List.length_append, List.length_nil]; omega) ?_) | (refine ccA ([]) (c4) ?_) | (refine ccA ([]) (c5) ?_) | (refine And.intro (by kernel_rfl) ?_) | (refine stpQ ?_))
   (refine z00 (by rfl) ?_ ?_ (by rfl)) <;> (repeat' (first | (exact eqA) | (refine And.intro ?_ ?_) | ((fail_if_success (with_reducible (show _ = _))); (show _ = _))))
theorem zfn (l : List Fl) (n t : Bs) (hd : z1t l = true) (hB : FlB l) (hn : 1 ≤ n.length ∧ n.length ≤ 8) (k : Nat) (hi : z1M l n = some k) (hr : z1t (zce l k) = true) (hrB : FlB (zce l k)) : CT Tryz.prog 160 [] [.agg [.sl 3 (flE (l))], .agg [.int .i64 2, .str n, .str [], .str []]] (.tup [.agg [.sl 3 (flE (zce l k))], .bool true]) [] := by
 have hlen := z2o l
 have c1 := z3h l (z6d hB)
 rw [hd] at c1
 have c2 := z6a n (by omega)
 rw [ze9 hn] at c2
 have c3 := za2 l n (by have := hB.1; omega)
 have c5 := z3h (zce l k) (z6d hrB)
 rw [hr] at c5
 have hl1 := hB.1
 have e0 : ([] : Bs) = [] := rfl
 have n13 : ¬ (2 : Int) = 3 := by decide
 unfold zce at *
 have hk := zdR hi
 rw [hi] at c3
 simp only [ixI] at c3
 have f1 : (k : Int) ≥ 0 := by omega
 have f2 : k < (flE l).length := by omega
 have gk := z2p hk
 have hlk := (hB.2 k).2
 have c4 := z7O l ((flAt l k).1, (flAt l k).2.1, ((flAt l k).2.1.length : Int)) hl1
 generalize putF l ((flAt l k).1, (flAt l k).2.1, ((flAt l k).2.1.length : Int)) = R at *
 simp only at c4
 clear hd hB hr hrB hi
 have e1 : ¬ (2 : Int) = 1 := by decide
 have e2 : (2 : Int) = 2 := rfl
 have f0 : ¬ (k : Int) < 0 := by omega
 refine z01 z0i 1 rfl Tryz.func160 rfl rfl rfl ?_
 conv => arg 6; whnf
 repeat ((try conv => whnf); first | (with_reducible first | refine z0f (fun Qs hN hE hR => ?_) | refine z0d ?_ | refine z04 (fun Qb kN kE kX kR => ?_) | refine z06 ?_ | refine z07 ?_ | refine z0e ?_ | refine z08 ?_ | refine z09 ?_ | (show W _ _ _ (.cond _ _ _) _ _; refine z05 rfl ?_) | (refine hN _ ?_; try clear hN hE hR Qs) | ((first | refine hE _ _ ?_ | refine hR _ ?_); try clear hN hE hR Qs) | ((first | refine kN _ ?_ | refine kE _ ?_ | refine kX _ _ rfl ?_ | refine kR _ ?_); try clear kN kE kX kR Qb)) | (refine ccA ([]) (c1) ?_) | (refine ccA ([]) (c2) ?_) | (refine z2M n13 ?_) | (refine z1g e0 ?_) | (refine z2M e1 ?_) | (refine z0c e1 ?_) | (refine z0c f0 ?_) | (refine z0h e2 ?_) | (refine ccA ([]) (c3) ?_) | (refine z0h f1 ?_) | (refine i_at gk ?_) | (refine And.intro f2 ?_) | (refine Exists.intro _ (And.intro gk ?_)) | (refine ccA ([]) (c4) ?_) | (refine ccA ([]) (c5) ?_) | (refine And.intro (by kernel_rfl) ?_) | (refine stpQ ?_))
 (refine z00 (by rfl) ?_ ?_ (by rfl)) <;> (repeat' (first | (exact eqA) | (refine And.intro ?_ ?_) | ((fail_if_success (with_reducible (show _ = _))); (show _ = _))))
end
end Go.Proofs.YtfjbinbpgdiafaaGreatDoor
namespace Go.Proofs.YtfjbinbpgdiafaaGreatDoor
set_option maxRecDepth 100000
set_option maxHeartbeats 8000000
set_option linter.unusedVariables false
set_option linter.unusedSimpArgs false
set_option linter.unusedSectionVars false
open Go.RowKit Pl
section
attribute [local irreducible] z0r z0s z0z AnsP LeP W
def acE (n f : Bs) : List (List T) := [[.int .i64 1, .str n, .str f, .str []], [.int .i64 2, .str n, .str [], .str []]]
theorem zeb (n : Bs) (hn : 1 ≤ n.length ∧ n.length ≤ 8) (hx : n ≠ [110, 101, 119]) : CT Tryz.prog 200 [] [.str n] (.bool true) [] := by
 have c1 := z13 (n.length : Int) 1 8
 rw [ze9 hn] at c1
 refine z01 z0i 1 rfl Tryz.func200 rfl rfl rfl ?_
 conv => arg 6; whnf
 repeat ((try conv => whnf); first | (with_reducible first | refine z0f (fun Qs hN hE hR => ?_) | refine z0d ?_ | refine z04 (fun Qb kN kE kX kR => ?_) | refine z06 ?_ | refine z07 ?_ | refine z0e ?_ | refine z08 ?_ | refine z09 ?_ | (show W _ _ _ (.cond _ _ _) _ _; refine z05 rfl ?_) | (refine hN _ ?_; try clear hN hE hR Qs) | ((first | refine hE _ _ ?_ | refine hR _ ?_); try clear hN hE hR Qs) | ((first | refine kN _ ?_ | refine kE _ ?_ | refine kX _ _ rfl ?_ | refine kR _ ?_); try clear kN kE kX kR Qb)) | (refine ccA ([]) (c1) ?_) | (refine z2M hx ?_) | (refine And.intro (by kernel_rfl) ?_) | (refine stpQ ?_))
 (refine z00 (by rfl) ?_ ?_ (by rfl)) <;> (repeat' (first | (exact eqA) | (refine And.intro ?_ ?_) | ((fail_if_success (with_reducible (show _ = _))); (show _ = _)))) <;> first | rfl | (simp [hx]; done)
theorem z90 (n t : Bs) (hn : 1 ≤ n.length ∧ n.length ≤ 8) (hx : n ≠ [110, 101, 119]) (ht : 1 ≤ t.length ∧ t.length ≤ 9000) : CT Tryz.prog 180 [] [.str n, .str t] (.tup [.sl 4 (acE n (z1j t)), .bool true]) [] := by
 have c1 := zbs t (by omega)
 rw [if_pos ht, decide_eq_true ht] at c1
 have c2 := zeb n hn hx
 generalize z1j t = f at *
 refine z01 z0i 1 rfl Tryz.func180 rfl rfl rfl ?_
 conv => arg 6; whnf
 repeat ((try conv => whnf); first | (with_reducible first | refine z0f (fun Qs hN hE hR => ?_) | refine z0d ?_ | refine z04 (fun Qb kN kE kX kR => ?_) | refine z06 ?_ | refine z07 ?_ | refine z0e ?_ | refine z08 ?_ | refine z09 ?_ | (show W _ _ _ (.cond _ _ _) _ _; refine z05 rfl ?_) | (refine hN _ ?_; try clear hN hE hR Qs) | ((first | refine hE _ _ ?_ | refine hR _ ?_); try clear hN hE hR Qs) | ((first | refine kN _ ?_ | refine kE _ ?_ | refine kX _ _ rfl ?_ | refine kR _ ?_); try clear kN kE kX kR Qb)) | (refine ccA ([]) (c1) ?_) | (refine ccA ([]) (c2) ?_) | (refine And.intro (by kernel_rfl) ?_) | (refine stpQ ?_))
 (refine z00 (by rfl) ?_ ?_ (by rfl)) <;> (repeat' (first | (exact eqA) | (refine And.intro ?_ ?_) | ((fail_if_success (with_reducible (show _ = _))); (show _ = _))))
theorem z91 (n t : Bs) (ts : List Bs) (hn : 1 ≤ n.length ∧ n.length ≤ 8) (ht : 1 ≤ t.length ∧ t.length ≤ 200) (h : Rec 89 ts) : CT Tryz.prog 181 [] [.agg [.sl 3 (flE (dkOf n ts))], .sl 4 (acE n (z1j t))] (.tup [.agg [.sl 3 (flE (dkOf n (ts ++ [t])))], .int .i64 2]) [] := by
 have h1 : Rec 90 ts := h.up (by decide)
 have h2 : Rec 90 (ts ++ [t]) := h.add ht
 have hfl := (z3n (t := t) (by omega)).2
 have a1 := zea (dkOf n ts) n (z1j t) (zfd hn h1) (z67 hn.2 h1) hn (by omega) (by rw [zdX]; exact zbq hn h2) (by rw [zdX]; exact zdY hn.2 h2)
 rw [zdX] at a1
 have a2 := zfn (z6A n ts t) n t (zbq hn h2) (zdY hn.2 h2) hn 0 (dk_ix n ts t) (by rw [z9Y]; exact zfd hn h2) (by rw [z9Y]; exact z67 hn.2 h2)
 rw [z9Y] at a2
 have hd0 : (flE (dkOf n ts)).length ≤ 1000 := by rw [z2o]; exact (z67 hn.2 h1).1
 generalize dkOf n (ts ++ [t]) = d2 at *
 generalize z6A n ts t = d1 at *
 generalize dkOf n ts = d0 at *
 generalize z1j t = f at *
 have hac : (acE n f).length = 2 := rfl
 have g0 : (acE n f)[0]? = some [.int .i64 1, .str n, .str f, .str []] := rfl
 have g1 : (acE n f)[1]? = some [.int .i64 2, .str n, .str [], .str []] := rfl
 generalize acE n f = A at *
 clear h h1 h2 hfl hn ht
 refine z01 z0i 1 rfl Tryz.func181 rfl rfl rfl ?_
 conv => arg 6; whnf
 repeat ((try conv => whnf); first | (with_reducible first | refine z0f (fun Qs hN hE hR => ?_) | refine z0d ?_ | refine z04 (fun Qb kN kE kX kR => ?_) | refine z06 ?_ | refine z07 ?_ | refine z0e ?_ | refine z08 ?_ | refine z09 ?_ | (show W _ _ _ (.cond _ _ _) _ _; refine z05 rfl ?_) | (refine hN _ ?_; try clear hN hE hR Qs) | ((first | refine hE _ _ ?_ | refine hR _ ?_); try clear hN hE hR Qs) | ((first | refine kN _ ?_ | refine kE _ ?_ | refine kX _ _ rfl ?_ | refine kR _ ?_); try clear kN kE kX kR Qb)) | (refine And.intro (by simp only [List.length_append, List.length_set, List.length_replicate, List.length_cons, List.length_nil]; omega) ?_) | (refine And.intro (by kernel_rfl) ?_) | (refine stpQ ?_))
 refine z0l 0 ⟨[(1, .sl 4 A), (4, .ptr 1 0 0), (6, .ptr 2 0 0)], [(1, some (.box [.val nilV])), (2, some (.box [.sl 3 (flE d2)]))], 3⟩ Nat (fun i => ⟨[(1, .sl 4 A), (4, .ptr 1 0 0), (6, .ptr 2 0 0), (7, .int .i64 (i : Int))], [(1, some (.box [.val nilV])), (2, some (.box [.sl 3 (flE (if i = 0 then d0 else if i = 1 then d1 else d2))]))], 3⟩) (fun i => i ≤ 2) (fun i => 2 - i) 0 (by decide) ?_ ?_ ?_
 ·(refine z02 (by rfl) ?_ ?_) <;> (repeat' (first | (exact eqA) | (refine And.intro ?_ ?_) | ((fail_if_success (with_reducible (show _ = _))); (show _ = _)))) <;> first | rfl | (simp; done)
 ·intro i hi
  have hc : i = 0 ∨ i = 1 ∨ i = 2 := by omega
  rcases hc with rfl | rfl | rfl
  ·have f1 : ((0 : Nat) : Int) < (A.length : Int) := by omega
   have f2 : 0 < A.length := by omega
   rw [if_pos rfl]
   repeat ((try conv => whnf); first | (with_reducible first | refine z0f (fun Qs hN hE hR => ?_) | refine z0d ?_ | refine z04 (fun Qb kN kE kX kR => ?_) | refine z06 ?_ | refine z07 ?_ | refine z0e ?_ | refine z08 ?_ | refine z09 ?_ | (show W _ _ _ (.cond _ _ _) _ _; refine z05 rfl ?_) | (refine hN _ ?_; try clear hN hE hR Qs) | ((first | refine hE _ _ ?_ | refine hR _ ?_); try clear hN hE hR Qs) | ((first | refine kN _ ?_ | refine kE _ ?_ | refine kX _ _ rfl ?_ | refine kR _ ?_); try clear kN kE kX kR Qb)) | (refine z0h f1 ?_) | (refine And.intro f2 ?_) | (refine i_at g0 ?_) | (refine Exists.intro 0 (And.intro rfl ?_)) | (refine Exists.intro _ (And.intro g0 ?_)) | (refine ccA ([]) (a1) ?_) | (refine And.intro (by kernel_rfl) ?_) | (refine stpQ ?_))
   refine ⟨1, by decide, by decide, ?_⟩
   (refine z02 (by rfl) ?_ ?_) <;> (repeat' (first | (exact eqA) | (refine And.intro ?_ ?_) | ((fail_if_success (with_reducible (show _ = _))); (show _ = _)))) <;> rfl
  ·have f1 : ((1 : Nat) : Int) < (A.length : Int) := by omega
   have f2 : 1 < A.length := by omega
   rw [if_neg (by decide), if_pos rfl]
   repeat ((try conv => whnf); first | (with_reducible first | refine z0f (fun Qs hN hE hR => ?_) | refine z0d ?_ | refine z04 (fun Qb kN kE kX kR => ?_) | refine z06 ?_ | refine z07 ?_ | refine z0e ?_ | refine z08 ?_ | refine z09 ?_ | (show W _ _ _ (.cond _ _ _) _ _; refine z05 rfl ?_) | (refine hN _ ?_; try clear hN hE hR Qs) | ((first | refine hE _ _ ?_ | refine hR _ ?_); try clear hN hE hR Qs) | ((first | refine kN _ ?_ | refine kE _ ?_ | refine kX _ _ rfl ?_ | refine kR _ ?_); try clear kN kE kX kR Qb)) | (refine z0h f1 ?_) | (refine And.intro f2 ?_) | (refine i_at g1 ?_) | (refine Exists.intro 1 (And.intro rfl ?_)) | (refine Exists.intro _ (And.intro g1 ?_)) | (refine ccA ([]) (a2) ?_) | (refine And.intro (by kernel_rfl) ?_) | (refine stpQ ?_))
   refine ⟨2, by decide, by decide, ?_⟩
   (refine z02 (by rfl) ?_ ?_) <;> (repeat' (first | (exact eqA) | (refine And.intro ?_ ?_) | ((fail_if_success (with_reducible (show _ = _))); (show _ = _)))) <;> rfl
  ·have f1 : ¬ ((2 : Nat) : Int) < (A.length : Int) := by omega
   rw [if_neg (by decide), if_neg (by decide)]
   repeat ((try conv => whnf); first | (with_reducible first | refine z0f (fun Qs hN hE hR => ?_) | refine z0d ?_ | refine z04 (fun Qb kN kE kX kR => ?_) | refine z06 ?_ | refine z07 ?_ | refine z0e ?_ | refine z08 ?_ | refine z09 ?_ | (show W _ _ _ (.cond _ _ _) _ _; refine z05 rfl ?_) | (refine hN _ ?_; try clear hN hE hR Qs) | ((first | refine hE _ _ ?_ | refine hR _ ?_); try clear hN hE hR Qs) | ((first | refine kN _ ?_ | refine kE _ ?_ | refine kX _ _ rfl ?_ | refine kR _ ?_); try clear kN kE kX kR Qb)) | (refine z0c f1 ?_) | (refine And.intro (by kernel_rfl) ?_) | (refine stpQ ?_))
   (refine z02 (by rfl) ?_ ?_) <;> (repeat' (first | (exact eqA) | (refine And.intro ?_ ?_) | ((fail_if_success (with_reducible (show _ = _))); (show _ = _)))) <;> rfl
 ·have e2 : (2 : Int) = (A.length : Int) := by omega
  repeat ((try conv => whnf); first | (with_reducible first | refine z0f (fun Qs hN hE hR => ?_) | refine z0d ?_ | refine z04 (fun Qb kN kE kX kR => ?_) | refine z06 ?_ | refine z07 ?_ | refine z0e ?_ | refine z08 ?_ | refine z09 ?_ | (show W _ _ _ (.cond _ _ _) _ _; refine z05 rfl ?_) | (refine hN _ ?_; try clear hN hE hR Qs) | ((first | refine hE _ _ ?_ | refine hR _ ?_); try clear hN hE hR Qs) | ((first | refine kN _ ?_ | refine kE _ ?_ | refine kX _ _ rfl ?_ | refine kR _ ?_); try clear kN kE kX kR Qb)) | (refine stpQ ?_))
  (refine z00 (by rfl) ?_ ?_ (by rfl)) <;> (repeat' (first | (exact eqA) | (refine And.intro ?_ ?_) | ((fail_if_success (with_reducible (show _ = _))); (show _ = _)))) <;> first | rfl | (rw [hac]; rfl)
theorem z3r (a K : Int) (up : Bool) (V : List (List T)) (s : Sv) (t : Bs) (ts : List Bs) (ht : 1 ≤ t.length ∧ t.length ≤ 200) (h : Rec 89 ts) : CT Tryz.prog 153 (svH a K up (dkOf shardN ts) V s .no) [.ptr 1 0 0, .str t] (.bool true) (svH a K up (dkOf shardN (ts ++ [t])) V s .no) := by
 have hn : 1 ≤ shardN.length ∧ shardN.length ≤ 8 := by decide
 have c1 := z90 shardN t hn (by decide) (by omega)
 have c2 := z91 shardN t ts hn ht h
 unfold svH svB
 generalize dkOf shardN (ts ++ [t]) = d2 at *
 generalize dkOf shardN ts = d0 at *
 have hac : (acE shardN (z1j t)).length = 2 := rfl
 generalize acE shardN (z1j t) = A at *
 unfold shardN at c1
 have f1 : ¬ (2 : Int) < (A.length : Int) := by omega
 obtain ⟨ep, vs, tk, al, re, rt, rk⟩ := s
 simp only
 generalize ntE tk = ntk
 generalize chE al = cal
 refine z01 z0i 5 rfl Tryz.func153 rfl rfl rfl ?_
 conv => arg 6; whnf
 repeat ((try conv => whnf); first | (with_reducible first | refine z0f (fun Qs hN hE hR => ?_) | refine z0d ?_ | refine z04 (fun Qb kN kE kX kR => ?_) | refine z06 ?_ | refine z07 ?_ | refine z0e ?_ | refine z08 ?_ | refine z09 ?_ | (show W _ _ _ (.cond _ _ _) _ _; refine z05 rfl ?_) | (refine hN _ ?_; try clear hN hE hR Qs) | ((first | refine hE _ _ ?_ | refine hR _ ?_); try clear hN hE hR Qs) | ((first | refine kN _ ?_ | refine kE _ ?_ | refine kX _ _ rfl ?_ | refine kR _ ?_); try clear kN kE kX kR Qb)) | (refine ccA ([]) (c1) ?_) | (refine ccA ([]) (c2) ?_) | (refine z0c f1 ?_) | (refine And.intro (by kernel_rfl) ?_) | (refine stpQ ?_))
 (refine z00 (by rfl) ?_ ?_ (by rfl)) <;> (repeat' (first | (exact eqA) | (refine And.intro ?_ ?_) | ((fail_if_success (with_reducible (show _ = _))); (show _ = _))))
end
end Go.Proofs.YtfjbinbpgdiafaaGreatDoor
