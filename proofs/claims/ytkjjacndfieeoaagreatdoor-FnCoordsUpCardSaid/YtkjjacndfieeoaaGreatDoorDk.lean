/- Functions by content: the reference puts files, acts on disks, writes records down. Functions by content: the reference does acts, and writes records into logs. Functions by content: the reference writes records into logs. -/
import Derived.Test.YtkjjacndfieeoaaGreatDoorTyL
import Derived.Test.YtkjjacndfieeoaaGreatDoorPlx
import Derived.Test.YtkjjacndfieeoaaGreatDoorLgu
import Derived.Test.YtkjjacndfieeoaaGreatDoorSvz
namespace Go.Proofs.YtkjjacndfieeoaaGreatDoor
set_option linter.unusedVariables false
set_option linter.unusedSimpArgs false
set_option linter.unusedSectionVars false
open Go.RowKit Pl
section
attribute [local irreducible] z0m z0n z0q AnsP LeP W
theorem zfS (a b : List Fl) : flE (a ++ b) = flE a ++ flE b := by simp [flE]
set_option maxRecDepth 100000 in
set_option maxHeartbeats 8000000 in
theorem z8P (l : List Fl) (f : Fl) (hl : l.length ≤ 1000) : CT Tryz.prog 190 [] [.agg [.sl 3 (flE (l))], .agg [.str f.1, .str f.2.1, .int .i64 f.2.2]] (.agg [.ref 1]) [.row 3 (flE (putF l f))] := by
 have hlen := z2j l
 have hsn : True := trivial
 refine z01 z0r 1 rfl Tryz.func190 rfl rfl rfl ?_
 conv => arg 6; whnf
 repeat ((try conv => whnf); first | (with_reducible first | refine z0c (fun Qs hN hE hR => ?_) | refine z0a ?_ | refine z03 (fun Qb kN kE kX kR => ?_) | refine z06 ?_ | refine z07 ?_ | refine z0b ?_ | refine z08 ?_ | refine z09 ?_ | (show W _ _ _ (.cond _ _ _) _ _; refine z05 rfl ?_) | (refine hN _ ?_; try clear hN hE hR Qs) | ((first | refine hE _ _ ?_ | refine hR _ ?_); try clear hN hE hR Qs) | ((first | refine kN _ ?_ | refine kE _ ?_ | refine kX _ _ rfl ?_ | refine kR _ ?_); try clear kN kE kX kR Qb)) | (refine stpQ ?_))
 refine z0i 0 ⟨[(2, .ptr 1 0 0), (3, .ptr 2 0 0), (4, .ptr 3 0 0), (5, .ptr 4 0 0)], [(1, some (.box [.sl 3 (flE l)])), (2, some (.box [.str f.1, .str f.2.1, .int .i64 f.2.2])), (3, some (.box [.val nilV])), (4, some (.box [.ref 5])), (5, some (.row 3 (flE (l.filter (loB f.1)))))], 6⟩ Nat (fun i => ⟨[(2, .ptr 1 0 0), (3, .ptr 2 0 0), (4, .ptr 3 0 0), (5, .ptr 4 0 0), (6, .int .i64 (i : Int))], [(1, some (.box [.sl 3 (flE l)])), (2, some (.box [.str f.1, .str f.2.1, .int .i64 f.2.2])), (3, some (.box [.val nilV])), (4, some (.box [.ref 5])), (5, some (.row 3 (flE ((l.take i).filter (loB f.1)))))], 6⟩) (fun i => i ≤ l.length) (fun i => l.length - i) 0 (Nat.zero_le _) ?_ ?_ ?_
 ·(refine z02 (by rfl) ?_ ?_) <;> (repeat' (first | (exact eqA) | (refine And.intro ?_ ?_) | ((fail_if_success (with_reducible (show _ = _))); (show _ = _)))) <;> first | rfl | (rw [List.take_zero, List.filter_nil, List.append_nil]; exact hsn) | (simp; done)
 ·intro i hi
  by_cases hlt : i < l.length
  ·have f1 : (i : Int) < ((flE l).length : Int) := by omega
   have f2 : i < (flE l).length := by omega
   have gi := z2k hlt
   have hn := z6x (loB f.1) hlt
   have hfl := List.length_filter_le (loB f.1) (l.take i)
   have hfe := z2j ((l.take i).filter (loB f.1))
   have htk : (l.take i).length ≤ l.length := by rw [List.length_take]; omega
   (try simp only [List.length_append, List.length_singleton] at hfe)
   by_cases hp : loB f.1 (flAt l i) = true
   ·rw [if_pos hp] at hn
    have hc : (Op.bytesLess (flAt l i).1 f.1) = true := hp
    clear hp
    repeat ((try conv => whnf); first | (with_reducible first | refine z0c (fun Qs hN hE hR => ?_) | refine z0a ?_ | refine z03 (fun Qb kN kE kX kR => ?_) | refine z06 ?_ | refine z07 ?_ | refine z0b ?_ | refine z08 ?_ | refine z09 ?_ | (show W _ _ _ (.cond _ _ _) _ _; refine z05 rfl ?_) | (refine hN _ ?_; try clear hN hE hR Qs) | ((first | refine hE _ _ ?_ | refine hR _ ?_); try clear hN hE hR Qs) | ((first | refine kN _ ?_ | refine kE _ ?_ | refine kX _ _ rfl ?_ | refine kR _ ?_); try clear kN kE kX kR Qb)) | (refine z0k f1 ?_) | (refine i_at gi ?_) | (refine And.intro f2 ?_) | (refine Exists.intro _ (And.intro gi ?_)) | (refine cb_t hc ?_) | (refine And.intro (by simp only [List.length_append, List.length_set, List.length_replicate, List.length_cons, List.length_nil]; omega) ?_) | (refine And.intro (by kernel_rfl) ?_) | (refine stpQ ?_))
    refine ⟨i + 1, (by (try dsimp only); omega), (by (try dsimp only); omega), ?_⟩
    simp only
    rw [hn, zfS ((l.take i).filter (loB f.1)) [flAt l i]]
    (refine z02 (by rfl) ?_ ?_) <;> (repeat' (first | (exact eqA) | (refine And.intro ?_ ?_) | ((fail_if_success (with_reducible (show _ = _))); (show _ = _)))) <;> rfl
   ·rw [if_neg hp, List.append_nil] at hn
    have hc : (Op.bytesLess (flAt l i).1 f.1) = false := by rw [loB] at hp; simpa using hp
    clear hp
    repeat ((try conv => whnf); first | (with_reducible first | refine z0c (fun Qs hN hE hR => ?_) | refine z0a ?_ | refine z03 (fun Qb kN kE kX kR => ?_) | refine z06 ?_ | refine z07 ?_ | refine z0b ?_ | refine z08 ?_ | refine z09 ?_ | (show W _ _ _ (.cond _ _ _) _ _; refine z05 rfl ?_) | (refine hN _ ?_; try clear hN hE hR Qs) | ((first | refine hE _ _ ?_ | refine hR _ ?_); try clear hN hE hR Qs) | ((first | refine kN _ ?_ | refine kE _ ?_ | refine kX _ _ rfl ?_ | refine kR _ ?_); try clear kN kE kX kR Qb)) | (refine z0k f1 ?_) | (refine i_at gi ?_) | (refine And.intro f2 ?_) | (refine Exists.intro _ (And.intro gi ?_)) | (refine cb_f hc ?_) | (refine And.intro (by kernel_rfl) ?_) | (refine stpQ ?_))
    refine ⟨i + 1, (by (try dsimp only); omega), (by (try dsimp only); omega), ?_⟩
    simp only
    rw [hn]
    (refine z02 (by rfl) ?_ ?_) <;> (repeat' (first | (exact eqA) | (refine And.intro ?_ ?_) | ((fail_if_success (with_reducible (show _ = _))); (show _ = _)))) <;> rfl
  ·obtain rfl : i = l.length := by omega
   have f1 : ¬ (l.length : Int) < ((flE l).length : Int) := by omega
   repeat ((try conv => whnf); first | (with_reducible first | refine z0c (fun Qs hN hE hR => ?_) | refine z0a ?_ | refine z03 (fun Qb kN kE kX kR => ?_) | refine z06 ?_ | refine z07 ?_ | refine z0b ?_ | refine z08 ?_ | refine z09 ?_ | (show W _ _ _ (.cond _ _ _) _ _; refine z05 rfl ?_) | (refine hN _ ?_; try clear hN hE hR Qs) | ((first | refine hE _ _ ?_ | refine hR _ ?_); try clear hN hE hR Qs) | ((first | refine kN _ ?_ | refine kE _ ?_ | refine kX _ _ rfl ?_ | refine kR _ ?_); try clear kN kE kX kR Qb)) | (refine z0o f1 ?_) | (refine And.intro (by kernel_rfl) ?_) | (refine stpQ ?_))
   rw [List.take_length]
   (refine z02 (by rfl) ?_ ?_) <;> (repeat' (first | (exact eqA) | (refine And.intro ?_ ?_) | ((fail_if_success (with_reducible (show _ = _))); (show _ = _)))) <;> rfl
 have hfl1 := List.length_filter_le (loB f.1) l
 have hfe1 := z2j (l.filter (loB f.1))
 have hsn : flE (l.filter (loB f.1)) ++ [[.str f.1, .str f.2.1, .int .i64 f.2.2]] = flE (l.filter (loB f.1) ++ [f]) := by rw [zfS]; rfl
 repeat ((try conv => whnf); first | (with_reducible first | refine z0c (fun Qs hN hE hR => ?_) | refine z0a ?_ | refine z03 (fun Qb kN kE kX kR => ?_) | refine z06 ?_ | refine z07 ?_ | refine z0b ?_ | refine z08 ?_ | refine z09 ?_ | (show W _ _ _ (.cond _ _ _) _ _; refine z05 rfl ?_) | (refine hN _ ?_; try clear hN hE hR Qs) | ((first | refine hE _ _ ?_ | refine hR _ ?_); try clear hN hE hR Qs) | ((first | refine kN _ ?_ | refine kE _ ?_ | refine kX _ _ rfl ?_ | refine kR _ ?_); try clear kN kE kX kR Qb)) | (refine And.intro (by simp only [List.length_append, List.length_set, List.length_replicate, List.length_cons, List.length_nil]; omega) ?_) | (refine And.intro (by kernel_rfl) ?_) | (refine stpQ ?_))
 refine z0i 2 ⟨[(2, .ptr 1 0 0), (3, .ptr 2 0 0), (4, .ptr 3 0 0), (5, .ptr 4 0 0)], [(1, some (.box [.sl 3 (flE l)])), (2, some (.box [.str f.1, .str f.2.1, .int .i64 f.2.2])), (3, some (.box [.val nilV])), (4, some (.box [.ref 5])), (5, some (.row 3 (flE (l.filter (loB f.1) ++ [f] ++ l.filter (upB f.1)))))], 6⟩ Nat (fun i => ⟨[(2, .ptr 1 0 0), (3, .ptr 2 0 0), (4, .ptr 3 0 0), (5, .ptr 4 0 0), (7, .int .i64 (i : Int))], [(1, some (.box [.sl 3 (flE l)])), (2, some (.box [.str f.1, .str f.2.1, .int .i64 f.2.2])), (3, some (.box [.val nilV])), (4, some (.box [.ref 5])), (5, some (.row 3 (flE (l.filter (loB f.1) ++ [f] ++ (l.take i).filter (upB f.1)))))], 6⟩) (fun i => i ≤ l.length) (fun i => l.length - i) 0 (Nat.zero_le _) ?_ ?_ ?_
 ·(refine z02 (by rfl) ?_ ?_) <;> (repeat' (first | (exact eqA) | (refine And.intro ?_ ?_) | ((fail_if_success (with_reducible (show _ = _))); (show _ = _)))) <;> first | rfl | (rw [List.take_zero, List.filter_nil, List.append_nil]; exact hsn) | (simp; done)
 ·intro i hi
  by_cases hlt : i < l.length
  ·have f1 : (i : Int) < ((flE l).length : Int) := by omega
   have f2 : i < (flE l).length := by omega
   have gi := z2k hlt
   have hn := z6x (upB f.1) hlt
   have hfl := List.length_filter_le (upB f.1) (l.take i)
   have hfe := z2j (l.filter (loB f.1) ++ [f] ++ (l.take i).filter (upB f.1))
   have htk : (l.take i).length ≤ l.length := by rw [List.length_take]; omega
   (try simp only [List.length_append, List.length_singleton] at hfe)
   by_cases hp : upB f.1 (flAt l i) = true
   ·rw [if_pos hp] at hn
    have hc : (!(Op.bytesLess (flAt l i).1 f.1 || decide ((flAt l i).1 = f.1))) = true := hp
    clear hp
    repeat ((try conv => whnf); first | (with_reducible first | refine z0c (fun Qs hN hE hR => ?_) | refine z0a ?_ | refine z03 (fun Qb kN kE kX kR => ?_) | refine z06 ?_ | refine z07 ?_ | refine z0b ?_ | refine z08 ?_ | refine z09 ?_ | (show W _ _ _ (.cond _ _ _) _ _; refine z05 rfl ?_) | (refine hN _ ?_; try clear hN hE hR Qs) | ((first | refine hE _ _ ?_ | refine hR _ ?_); try clear hN hE hR Qs) | ((first | refine kN _ ?_ | refine kE _ ?_ | refine kX _ _ rfl ?_ | refine kR _ ?_); try clear kN kE kX kR Qb)) | (refine z0k f1 ?_) | (refine i_at gi ?_) | (refine And.intro f2 ?_) | (refine Exists.intro _ (And.intro gi ?_)) | (refine cb_t hc ?_) | (refine And.intro (by simp only [List.length_append, List.length_set, List.length_replicate, List.length_cons, List.length_nil]; omega) ?_) | (refine And.intro (by kernel_rfl) ?_) | (refine stpQ ?_))
    refine ⟨i + 1, (by (try dsimp only); omega), (by (try dsimp only); omega), ?_⟩
    simp only
    rw [hn, ← List.append_assoc, zfS (l.filter (loB f.1) ++ [f] ++ (l.take i).filter (upB f.1)) [flAt l i]]
    (refine z02 (by rfl) ?_ ?_) <;> (repeat' (first | (exact eqA) | (refine And.intro ?_ ?_) | ((fail_if_success (with_reducible (show _ = _))); (show _ = _)))) <;> rfl
   ·rw [if_neg hp, List.append_nil] at hn
    have hc : (!(Op.bytesLess (flAt l i).1 f.1 || decide ((flAt l i).1 = f.1))) = false := by rw [upB] at hp; simpa using hp
    clear hp
    repeat ((try conv => whnf); first | (with_reducible first | refine z0c (fun Qs hN hE hR => ?_) | refine z0a ?_ | refine z03 (fun Qb kN kE kX kR => ?_) | refine z06 ?_ | refine z07 ?_ | refine z0b ?_ | refine z08 ?_ | refine z09 ?_ | (show W _ _ _ (.cond _ _ _) _ _; refine z05 rfl ?_) | (refine hN _ ?_; try clear hN hE hR Qs) | ((first | refine hE _ _ ?_ | refine hR _ ?_); try clear hN hE hR Qs) | ((first | refine kN _ ?_ | refine kE _ ?_ | refine kX _ _ rfl ?_ | refine kR _ ?_); try clear kN kE kX kR Qb)) | (refine z0k f1 ?_) | (refine i_at gi ?_) | (refine And.intro f2 ?_) | (refine Exists.intro _ (And.intro gi ?_)) | (refine cb_f hc ?_) | (refine And.intro (by kernel_rfl) ?_) | (refine stpQ ?_))
    refine ⟨i + 1, (by (try dsimp only); omega), (by (try dsimp only); omega), ?_⟩
    simp only
    rw [hn]
    (refine z02 (by rfl) ?_ ?_) <;> (repeat' (first | (exact eqA) | (refine And.intro ?_ ?_) | ((fail_if_success (with_reducible (show _ = _))); (show _ = _)))) <;> rfl
  ·obtain rfl : i = l.length := by omega
   have f1 : ¬ (l.length : Int) < ((flE l).length : Int) := by omega
   repeat ((try conv => whnf); first | (with_reducible first | refine z0c (fun Qs hN hE hR => ?_) | refine z0a ?_ | refine z03 (fun Qb kN kE kX kR => ?_) | refine z06 ?_ | refine z07 ?_ | refine z0b ?_ | refine z08 ?_ | refine z09 ?_ | (show W _ _ _ (.cond _ _ _) _ _; refine z05 rfl ?_) | (refine hN _ ?_; try clear hN hE hR Qs) | ((first | refine hE _ _ ?_ | refine hR _ ?_); try clear hN hE hR Qs) | ((first | refine kN _ ?_ | refine kE _ ?_ | refine kX _ _ rfl ?_ | refine kR _ ?_); try clear kN kE kX kR Qb)) | (refine z0o f1 ?_) | (refine And.intro (by kernel_rfl) ?_) | (refine stpQ ?_))
   rw [List.take_length]
   (refine z02 (by rfl) ?_ ?_) <;> (repeat' (first | (exact eqA) | (refine And.intro ?_ ?_) | ((fail_if_success (with_reducible (show _ = _))); (show _ = _)))) <;> rfl
 repeat ((try conv => whnf); first | (with_reducible first | refine z0c (fun Qs hN hE hR => ?_) | refine z0a ?_ | refine z03 (fun Qb kN kE kX kR => ?_) | refine z06 ?_ | refine z07 ?_ | refine z0b ?_ | refine z08 ?_ | refine z09 ?_ | (show W _ _ _ (.cond _ _ _) _ _; refine z05 rfl ?_) | (refine hN _ ?_; try clear hN hE hR Qs) | ((first | refine hE _ _ ?_ | refine hR _ ?_); try clear hN hE hR Qs) | ((first | refine kN _ ?_ | refine kE _ ?_ | refine kX _ _ rfl ?_ | refine kR _ ?_); try clear kN kE kX kR Qb)) | (refine stpQ ?_))
 (refine z00 (by rfl) ?_ ?_ (by rfl)) <;> (repeat' (first | (exact eqA) | (refine And.intro ?_ ?_) | ((fail_if_success (with_reducible (show _ = _))); (show _ = _)))) <;> rfl
end
end Go.Proofs.YtkjjacndfieeoaaGreatDoor
namespace Go.Proofs.YtkjjacndfieeoaaGreatDoor
set_option maxRecDepth 100000
set_option maxHeartbeats 8000000
set_option linter.unusedVariables false
set_option linter.unusedSimpArgs false
set_option linter.unusedSectionVars false
open Go.RowKit Pl
section
attribute [local irreducible] z0m z0n z0q AnsP LeP W
theorem z1E {l : List Fl} (h : FlB l) : z9C l := ⟨by have := h.1; omega, fun k => by have := h.2 k; omega⟩
theorem z7S {n : Bs} (hn : 1 ≤ n.length ∧ n.length ≤ 8) : inB (n.length : Int) 1 8 = true := by simp only [inB, Bool.and_eq_true, decide_eq_true_eq]; omega
theorem ziZ (l : List Fl) (n t : Bs) (hd : z0X l = true) (hB : FlB l) (hn : 1 ≤ n.length ∧ n.length ≤ 8) (ht : t.length ≤ 30000) (hr : z0X (addF l n t) = true) (hrB : FlB (addF l n t)) : CT Tryz.prog 164 [] [.agg [.sl 3 (flE (l))], .agg [.int .i64 1, .str n, .str t, .str []]] (.tup [.agg [.sl 3 (flE (addF l n t))], .bool true]) [] := by
 have hlen := z2j l
 have c1 := z3g l (z1E hB)
 rw [hd] at c1
 have c2 := z6n n (by omega)
 rw [z7S hn] at c2
 have c3 := zaQ l n (by have := hB.1; omega)
 have c5 := z3g (addF l n t) (z1E hrB)
 rw [hr] at c5
 have hl1 := hB.1
 have e0 : ([] : Bs) = [] := rfl
 have n13 : ¬ (1 : Int) = 3 := by decide
 unfold addF at *
 cases hi : z1z l n with
 | some k =>
   have hk := zf7 hi
   rw [hi] at c3 hr hrB c5
   simp only [ixI] at c3 hr hrB c5 ⊢
   have f1 : (k : Int) ≥ 0 := by omega
   have f2 : k < (flE l).length := by omega
   have gk := z2k hk
   have hlk := (hB.2 k).2
   have c4 := z8P l ((flAt l k).1, (flAt l k).2.1 ++ t, (flAt l k).2.2) hl1
   generalize putF l ((flAt l k).1, (flAt l k).2.1 ++ t, (flAt l k).2.2) = R at *
   simp only at c4
   clear hd hB hr hrB hi
   have e1 : (1 : Int) = 1 := rfl
   refine z01 z0r 1 rfl Tryz.func164 rfl rfl rfl ?_
   conv => arg 6; whnf
   repeat ((try conv => whnf); first | (with_reducible first | refine z0c (fun Qs hN hE hR => ?_) | refine z0a ?_ | refine z03 (fun Qb kN kE kX kR => ?_) | refine z06 ?_ | refine z07 ?_ | refine z0b ?_ | refine z08 ?_ | refine z09 ?_ | (show W _ _ _ (.cond _ _ _) _ _; refine z05 rfl ?_) | (refine hN _ ?_; try clear hN hE hR Qs) | ((first | refine hE _ _ ?_ | refine hR _ ?_); try clear hN hE hR Qs) | ((first | refine kN _ ?_ | refine kE _ ?_ | refine kX _ _ rfl ?_ | refine kR _ ?_); try clear kN kE kX kR Qb)) | (refine ccA ([]) (c1) ?_) | (refine ccA ([]) (c2) ?_) | (refine z2y n13 ?_) | (refine z0F e0 ?_) | (refine z0F e1 ?_) | (refine z0k e1 ?_) | (refine ccA ([]) (c3) ?_) | (refine z0k f1 ?_) | (refine i_at gk ?_) | (refine And.intro f2 ?_) | (refine Exists.intro _ (And.intro gk ?_)) | (refine And.intro (by simp only [List.length_append]; omega) ?_) | (refine ccA ([]) (c4) ?_) | (refine ccA ([]) (c5) ?_) | (refine And.intro (by kernel_rfl) ?_) | (refine stpQ ?_))
   (refine z00 (by rfl) ?_ ?_ (by rfl)) <;> (repeat' (first | (exact eqA) | (refine And.intro ?_ ?_) | ((fail_if_success (with_reducible (show _ = _))); (show _ = _))))
 | none =>
   rw [hi] at c3 hr hrB c5
   simp only [ixI] at c3 hr hrB c5 ⊢
   have f1 : ¬ (-1 : Int) ≥ 0 := by decide
   have c4 := z8P l (n, t, 0) hl1
   generalize putF l (n, t, 0) = R at *
   simp only at c4
   clear hd hB hr hrB hi
   have e1 : (1 : Int) = 1 := rfl
   refine z01 z0r 1 rfl Tryz.func164 rfl rfl rfl ?_
   conv => arg 6; whnf
   repeat ((try conv => whnf); first | (with_reducible first | refine z0c (fun Qs hN hE hR => ?_) | refine z0a ?_ | refine z03 (fun Qb kN kE kX kR => ?_) | refine z06 ?_ | refine z07 ?_ | refine z0b ?_ | refine z08 ?_ | refine z09 ?_ | (show W _ _ _ (.cond _ _ _) _ _; refine z05 rfl ?_) | (refine hN _ ?_; try clear hN hE hR Qs) | ((first | refine hE _ _ ?_ | refine hR _ ?_); try clear hN hE hR Qs) | ((first | refine kN _ ?_ | refine kE _ ?_ | refine kX _ _ rfl ?_ | refine kR _ ?_); try clear kN kE kX kR Qb)) | (refine ccA ([]) (c1) ?_) | (refine ccA ([]) (c2) ?_) | (refine z2y n13 ?_) | (refine z0F e0 ?_) | (refine z0F e1 ?_) | (refine z0k e1 ?_) | (refine ccA ([]) (c3) ?_) | (refine z0o f1 ?_) | (refine And.intro (by simp only [List.nil_append, List.length_append, List.length_nil]; omega) ?_) | (refine ccA ([]) (c4) ?_) | (refine ccA ([]) (c5) ?_) | (refine And.intro (by kernel_rfl) ?_) | (refine stpQ ?_))
   (refine z00 (by rfl) ?_ ?_ (by rfl)) <;> (repeat' (first | (exact eqA) | (refine And.intro ?_ ?_) | ((fail_if_success (with_reducible (show _ = _))); (show _ = _))))
theorem zhd (l : List Fl) (n t : Bs) (hd : z0X l = true) (hB : FlB l) (hn : 1 ≤ n.length ∧ n.length ≤ 8) (k : Nat) (hi : z1z l n = some k) (hr : z0X (zdu l k) = true) (hrB : FlB (zdu l k)) : CT Tryz.prog 164 [] [.agg [.sl 3 (flE (l))], .agg [.int .i64 2, .str n, .str [], .str []]] (.tup [.agg [.sl 3 (flE (zdu l k))], .bool true]) [] := by
 have hlen := z2j l
 have c1 := z3g l (z1E hB)
 rw [hd] at c1
 have c2 := z6n n (by omega)
 rw [z7S hn] at c2
 have c3 := zaQ l n (by have := hB.1; omega)
 have c5 := z3g (zdu l k) (z1E hrB)
 rw [hr] at c5
 have hl1 := hB.1
 have e0 : ([] : Bs) = [] := rfl
 have n13 : ¬ (2 : Int) = 3 := by decide
 unfold zdu at *
 have hk := zf7 hi
 rw [hi] at c3
 simp only [ixI] at c3
 have f1 : (k : Int) ≥ 0 := by omega
 have f2 : k < (flE l).length := by omega
 have gk := z2k hk
 have hlk := (hB.2 k).2
 have c4 := z8P l ((flAt l k).1, (flAt l k).2.1, ((flAt l k).2.1.length : Int)) hl1
 generalize putF l ((flAt l k).1, (flAt l k).2.1, ((flAt l k).2.1.length : Int)) = R at *
 simp only at c4
 clear hd hB hr hrB hi
 have e1 : ¬ (2 : Int) = 1 := by decide
 have e2 : (2 : Int) = 2 := rfl
 have f0 : ¬ (k : Int) < 0 := by omega
 refine z01 z0r 1 rfl Tryz.func164 rfl rfl rfl ?_
 conv => arg 6; whnf
 repeat ((try conv => whnf); first | (with_reducible first | refine z0c (fun Qs hN hE hR => ?_) | refine z0a ?_ | refine z03 (fun Qb kN kE kX kR => ?_) | refine z06 ?_ | refine z07 ?_ | refine z0b ?_ | refine z08 ?_ | refine z09 ?_ | (show W _ _ _ (.cond _ _ _) _ _; refine z05 rfl ?_) | (refine hN _ ?_; try clear hN hE hR Qs) | ((first | refine hE _ _ ?_ | refine hR _ ?_); try clear hN hE hR Qs) | ((first | refine kN _ ?_ | refine kE _ ?_ | refine kX _ _ rfl ?_ | refine kR _ ?_); try clear kN kE kX kR Qb)) | (refine ccA ([]) (c1) ?_) | (refine ccA ([]) (c2) ?_) | (refine z2y n13 ?_) | (refine z0F e0 ?_) | (refine z2y e1 ?_) | (refine z0o e1 ?_) | (refine z0o f0 ?_) | (refine z0k e2 ?_) | (refine ccA ([]) (c3) ?_) | (refine z0k f1 ?_) | (refine i_at gk ?_) | (refine And.intro f2 ?_) | (refine Exists.intro _ (And.intro gk ?_)) | (refine ccA ([]) (c4) ?_) | (refine ccA ([]) (c5) ?_) | (refine And.intro (by kernel_rfl) ?_) | (refine stpQ ?_))
 (refine z00 (by rfl) ?_ ?_ (by rfl)) <;> (repeat' (first | (exact eqA) | (refine And.intro ?_ ?_) | ((fail_if_success (with_reducible (show _ = _))); (show _ = _))))
end
end Go.Proofs.YtkjjacndfieeoaaGreatDoor
namespace Go.Proofs.YtkjjacndfieeoaaGreatDoor
set_option maxRecDepth 100000
set_option maxHeartbeats 8000000
set_option linter.unusedVariables false
set_option linter.unusedSimpArgs false
set_option linter.unusedSectionVars false
open Go.RowKit Pl
section
attribute [local irreducible] z0m z0n z0q AnsP LeP W
def acE (n f : Bs) : List (List T) := [[.int .i64 1, .str n, .str f, .str []], [.int .i64 2, .str n, .str [], .str []]]
theorem zfT (n : Bs) (hn : 1 ≤ n.length ∧ n.length ≤ 8) (hx : n ≠ [110, 101, 119]) : CT Tryz.prog 163 [] [.str n] (.bool true) [] := by
 have c1 := z0U (n.length : Int) 1 8
 rw [z7S hn] at c1
 refine z01 z0r 1 rfl Tryz.func163 rfl rfl rfl ?_
 conv => arg 6; whnf
 repeat ((try conv => whnf); first | (with_reducible first | refine z0c (fun Qs hN hE hR => ?_) | refine z0a ?_ | refine z03 (fun Qb kN kE kX kR => ?_) | refine z06 ?_ | refine z07 ?_ | refine z0b ?_ | refine z08 ?_ | refine z09 ?_ | (show W _ _ _ (.cond _ _ _) _ _; refine z05 rfl ?_) | (refine hN _ ?_; try clear hN hE hR Qs) | ((first | refine hE _ _ ?_ | refine hR _ ?_); try clear hN hE hR Qs) | ((first | refine kN _ ?_ | refine kE _ ?_ | refine kX _ _ rfl ?_ | refine kR _ ?_); try clear kN kE kX kR Qb)) | (refine ccA ([]) (c1) ?_) | (refine z2y hx ?_) | (refine And.intro (by kernel_rfl) ?_) | (refine stpQ ?_))
 (refine z00 (by rfl) ?_ ?_ (by rfl)) <;> (repeat' (first | (exact eqA) | (refine And.intro ?_ ?_) | ((fail_if_success (with_reducible (show _ = _))); (show _ = _)))) <;> first | rfl | (simp [hx]; done)
theorem zfU (n t : Bs) (hn : 1 ≤ n.length ∧ n.length ≤ 8) (hx : n ≠ [110, 101, 119]) (ht : 1 ≤ t.length ∧ t.length ≤ 9000) : CT Tryz.prog 127 [] [.str n, .str t] (.tup [.sl 4 (acE n (z0J t)), .bool true]) [] := by
 have c1 := zci t (by omega)
 rw [if_pos ht, decide_eq_true ht] at c1
 have c2 := zfT n hn hx
 generalize z0J t = f at *
 refine z01 z0r 1 rfl Tryz.func127 rfl rfl rfl ?_
 conv => arg 6; whnf
 repeat ((try conv => whnf); first | (with_reducible first | refine z0c (fun Qs hN hE hR => ?_) | refine z0a ?_ | refine z03 (fun Qb kN kE kX kR => ?_) | refine z06 ?_ | refine z07 ?_ | refine z0b ?_ | refine z08 ?_ | refine z09 ?_ | (show W _ _ _ (.cond _ _ _) _ _; refine z05 rfl ?_) | (refine hN _ ?_; try clear hN hE hR Qs) | ((first | refine hE _ _ ?_ | refine hR _ ?_); try clear hN hE hR Qs) | ((first | refine kN _ ?_ | refine kE _ ?_ | refine kX _ _ rfl ?_ | refine kR _ ?_); try clear kN kE kX kR Qb)) | (refine ccA ([]) (c1) ?_) | (refine ccA ([]) (c2) ?_) | (refine And.intro (by kernel_rfl) ?_) | (refine stpQ ?_))
 (refine z00 (by rfl) ?_ ?_ (by rfl)) <;> (repeat' (first | (exact eqA) | (refine And.intro ?_ ?_) | ((fail_if_success (with_reducible (show _ = _))); (show _ = _))))
end
end Go.Proofs.YtkjjacndfieeoaaGreatDoor
