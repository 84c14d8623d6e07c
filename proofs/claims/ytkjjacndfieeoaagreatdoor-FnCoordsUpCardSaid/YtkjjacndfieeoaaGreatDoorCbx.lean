/- Functions by content: the program's coordinator is made from its disk. Functions by content: the reference's coordinator is made from its disk. Functions by content: the program's check of a coordinator. -/
import Derived.Test.YtkjjacndfieeoaaGreatDoorVd
import Derived.Test.YtkjjacndfieeoaaGreatDoorCkk
import Derived.Test.YtkjjacndfieeoaaGreatDoorCk
import Derived.Test.YtkjjacndfieeoaaGreatDoorCs
namespace Go.Proofs.YtkjjacndfieeoaaGreatDoor
set_option maxRecDepth 100000
set_option maxHeartbeats 8000000
set_option linter.unusedVariables false
set_option linter.unusedSimpArgs false
set_option linter.unusedSectionVars false
open Go.RowKit Pl
attribute [local irreducible] z0m z0n z0q AnsP LeP
theorem pow2 {k : Nat} (h : k ≤ 2) : IntKind.i64.wrap (1 * 2 ^ ((k : Nat) : Int).toNat) = ((2 ^ k : Nat) : Int) ∧ 2 ^ k ≤ 4 := by
 rw [Int.toNat_natCast]
 rcases (show k = 0 ∨ k = 1 ∨ k = 2 by omega) with rfl | rfl | rfl <;> exact ⟨by decide, by decide⟩
theorem zdF (ho : Nat) (hho : ho ≤ 2) (k : Nat) (hk : k ≤ 2) (fs : List Fl) (hf : z9C fs) (po : List Bs) (hpo : (po.length : Int) ≤ 100000000) :
 CT Tryz.prog 61 [] [.int .i64 (ho : Int), .int .i64 (k : Int), .agg [.sl 3 (flE fs)], .sl 1 (strE po)] (.agg (cvE (ho : Int) (k : Int) fs po (cvOf ho (z0N fs z0P)) (emV (2 ^ k)) (emD (2 ^ k)))) [] := by
 have c1 := zdn fs hf.1
 have c2 := zdj fs z0P hf
 have c3 := z1W po hpo
 have c4 := z7J (n := (k : Int)) (by omega)
 obtain ⟨e1, e2⟩ := pow2 hk
 have hfacts := z3E fs z0P
 generalize z0N fs z0P = ts at c2 hfacts ⊢
 have hts := z0d ts
 have hts2 : (ts.length : Int) ≤ 20001 := by omega
 unfold z0P at c2
 unfold emV emD
 generalize 2 ^ k = pk at e1 e2 ⊢
 refine z01 z0f 1 rfl Tryz.func61 rfl rfl rfl ?_
 iterate 34 ((try conv => whnf); first | (refine ccA ([]) (c1) ?_) | (refine ccA ([]) (c2) ?_) | (refine ccA ([]) (c3) ?_) | (refine ccA ([]) (c4) ?_) | (refine And.intro (show _ ≤ (64 : Int) from by omega) ?_) | (refine Exists.intro _ (And.intro e1.symm ?_)) | (refine Exists.intro pk (And.intro rfl (And.intro rfl (And.intro (by omega) ?_)))) | (refine And.intro (by kernel_rfl) ?_) | (refine stpQ ?_))
 repeat ((try conv => whnf); first | (refine stpQ ?_))
 refine z11 Nat (fun i => ⟨[(8, .ptr 1 0 0), (9, .ptr 2 0 0), (30, .sl 1 (strE ts)), (31, .int .i64 ((strE ts).length : Int)), (32, .int .i64 (i : Int))],
  [(1, some (.box [.int .i64 0, .int .i64 0, .bool false, .val nilV, .val nilV, .val nilV, .val nilV, .int .i64 0, .bool false, .val nilV, .val nilV])), (2, some (cvB (ho : Int) (k : Int) fs po (cvOf ho (ts.take i)) 3 4 5 6)), (3, some (.row 8 (slE (cvOf ho (ts.take i)).se))), (4, some (.row 1 (ntE (cvOf ho (ts.take i)).tr))), (5, some (.row 1 (List.replicate pk [.str []]))), (6, some (.row 1 (List.replicate pk [.bool false])))], 7⟩) (fun i => i ≤ ts.length) (fun i => ts.length - i) 0 (by omega) ?_ ?_
 ·(refine z02 (by rfl) ?_ ?_)
  all_goals (repeat' (first | (exact trivial) | ((try conv => whnf); first | (exact trivial) | (refine And.intro ?_ ?_))))
  all_goals first
   | rfl
   | decide
 ·intro Q1 hQ1 i hi
  by_cases hlt : i < ts.length
  ·have hlt2 : (i : Int) < ((strE ts).length : Int) := by omega
   have hnx := ziT ho hlt
   have g : CvOk ho (cvOf ho (ts.take i)) := zaY hho _
   have hmem := hfacts.1 _ (List.getElem_mem hlt)
   have gt := sE_get (ps := ts) hlt
   generalize ts[i] = t at hnx hmem gt
   obtain ⟨b, r, rfl⟩ : ∃ b r, t = b :: r := by
    cases t with
    | nil => simp at hmem
    | cons b r => exact ⟨b, r, rfl⟩
   have hr : r.length ≤ 9000 := by have := hmem.2; simp at this; omega
   generalize cvOf ho (ts.take i) = s at hnx g ⊢
   have cA := zhe ho hho (k : Int) fs po (List.replicate pk [.str []]) (List.replicate pk [.bool false]) s g b r hr
   have hs' : z8H ho s (b :: r) = ckDo s (ckOf ho s (b :: r)) := rfl
   rw [hs'] at hnx
   generalize ckOf ho s (b :: r) = rk at cA hnx
   clear hs' g hfacts hmem
   cases rk with
   | no =>
     unfold cvH cvB at cA
     unfold cvB
     repeat ((try conv => whnf); first | (refine i_at gt ?_) | (refine z4g ([2, 3, 4, 5, 6]) (cA) (by ((repeat' (first | (exact trivial) | (exact rfl) | (decide) | (refine And.intro ?_ ?_))); first | done | fail)) (by ((repeat' (first | (exact trivial) | (exact rfl) | (decide) | (refine And.intro ?_ ?_))); first | done | fail)) (by decide) (by rfl) (by first | exact .inl rfl | (refine .inr ⟨by simp [own2, own1, own0], fun e he => ?_⟩; simp only [List.mem_cons, List.not_mem_nil, or_false] at he <;> first | exact he.elim | (subst he; (first | exact z2c | exact z2b | exact z21 _ | exact z1B _)) | (rcases he with rfl | rfl <;> (first | exact z2c | exact z2b | exact z21 _ | exact z1B _)) | (rcases he with rfl | rfl | rfl <;> (first | exact z2c | exact z2b | exact z21 _ | exact z1B _)))) ?_) | (refine ccB ([2, 3, 4, 5, 6]) (cA) ?_) | (refine stpQ ?_))
     refine ⟨i + 1, by omega, by omega, ?_⟩
     rw [hnx]
     (refine z02 (by rfl) ?_ ?_) <;> (repeat' (first | (exact eqA) | (refine shE ?_) | (refine And.intro ?_ ?_)))
     all_goals rfl
   | beg n =>
     unfold cvH cvB at cA
     unfold cvB
     repeat ((try conv => whnf); first | (refine i_at gt ?_) | (refine z4g ([2, 3, 4, 5, 6]) (cA) (by ((repeat' (first | (exact trivial) | (exact rfl) | (decide) | (refine And.intro ?_ ?_))); first | done | fail)) (by ((repeat' (first | (exact trivial) | (exact rfl) | (decide) | (refine And.intro ?_ ?_))); first | done | fail)) (by decide) (by rfl) (by first | exact .inl rfl | (refine .inr ⟨by simp [own2, own1, own0], fun e he => ?_⟩; simp only [List.mem_cons, List.not_mem_nil, or_false] at he <;> first | exact he.elim | (subst he; (first | exact z2c | exact z2b | exact z21 _ | exact z1B _)) | (rcases he with rfl | rfl <;> (first | exact z2c | exact z2b | exact z21 _ | exact z1B _)) | (rcases he with rfl | rfl | rfl <;> (first | exact z2c | exact z2b | exact z21 _ | exact z1B _)))) ?_) | (refine ccB ([2, 3, 4, 5, 6]) (cA) ?_) | (refine stpQ ?_))
     refine ⟨i + 1, by omega, by omega, ?_⟩
     rw [hnx]
     (refine z02 (by rfl) ?_ ?_) <;> (repeat' (first | (exact eqA) | (refine shE ?_) | (refine And.intro ?_ ?_)))
     all_goals rfl
   | clo h g =>
     unfold cvH cvB at cA
     unfold cvB
     repeat ((try conv => whnf); first | (refine i_at gt ?_) | (refine z4g ([2, 3, 4, 5, 6]) (cA) (by ((repeat' (first | (exact trivial) | (exact rfl) | (decide) | (refine And.intro ?_ ?_))); first | done | fail)) (by ((repeat' (first | (exact trivial) | (exact rfl) | (decide) | (refine And.intro ?_ ?_))); first | done | fail)) (by decide) (by rfl) (by first | exact .inl rfl | (refine .inr ⟨by simp [own2, own1, own0], fun e he => ?_⟩; simp only [List.mem_cons, List.not_mem_nil, or_false] at he <;> first | exact he.elim | (subst he; (first | exact z2c | exact z2b | exact z21 _ | exact z1B _)) | (rcases he with rfl | rfl <;> (first | exact z2c | exact z2b | exact z21 _ | exact z1B _)) | (rcases he with rfl | rfl | rfl <;> (first | exact z2c | exact z2b | exact z21 _ | exact z1B _)))) ?_) | (refine ccB ([2, 3, 4, 5, 6]) (cA) ?_) | (refine stpQ ?_))
     refine ⟨i + 1, by omega, by omega, ?_⟩
     rw [hnx]
     (refine z02 (by rfl) ?_ ?_) <;> (repeat' (first | (exact eqA) | (refine shE ?_) | (refine And.intro ?_ ?_)))
     all_goals rfl
  ·have hie : i = ts.length := by omega
   subst hie
   rw [List.take_length]
   unfold cvB
   repeat ((try conv => whnf); first | (refine stpQ ?_))
   refine hQ1 _ _ ?_
   repeat ((try conv => whnf); first | (refine And.intro (by kernel_rfl) ?_) | (refine stpQ ?_))
   (refine z00 (by rfl) ?_ ?_ (by rfl)) <;> (repeat' (first | (exact eqA) | (refine shE ?_) | (refine And.intro ?_ ?_)))
theorem z7T (ho : Nat) (hho : ho ≤ 2) (k : Nat) (hk : k ≤ 2) (fs : List Fl) (hf : z9C fs) :
 CT Tryz.prog 25 [] [.int .i64 (ho : Int), .int .i64 (k : Int), .agg [.sl 3 (flE fs)]] (.agg (cvE (ho : Int) (k : Int) fs (z0g (z0j ho) 16) (cvOf ho (z0N fs z0P)) (emV (2 ^ k)) (emD (2 ^ k)))) [] := by
 have c1 := zcB ho hho
 have c2 := c_Pool (z0j ho) (z5s ho)
 have c3 := zdF ho hho k hk fs hf (z0g (z0j ho) 16) (by rw [z0H]; omega)
 generalize z0g (z0j ho) 16 = P at c2 c3 ⊢
 generalize z0j ho = S at c1 c2
 unfold cvE at c3 ⊢
 refine z01 z0f 1 rfl Tryz.func25 rfl rfl rfl ?_
 repeat ((try conv => whnf); first | (refine ccA ([]) (c1) ?_) | (refine ccA ([]) (c2) ?_) | (refine ccA ([]) (c3) ?_) | (refine And.intro (by kernel_rfl) ?_) | (refine stpQ ?_))
 (refine z00 (by rfl) ?_ ?_ (by rfl)) <;> (repeat' (first | (exact eqA) | (refine shE ?_) | (refine And.intro ?_ ?_)))
end Go.Proofs.YtkjjacndfieeoaaGreatDoor
namespace Go.Proofs.YtkjjacndfieeoaaGreatDoor
set_option maxRecDepth 100000
set_option maxHeartbeats 8000000
set_option linter.unusedVariables false
set_option linter.unusedSimpArgs false
set_option linter.unusedSectionVars false
open Go.RowKit Pl
attribute [local irreducible] z0m z0n z0q AnsP LeP
theorem z3o (k : Nat) (hk : k ≤ 2) : CT Tryz.prog 94 [] [.int .i64 (k : Int)] (.int .i64 ((2 ^ k : Nat) : Int)) [] := by
 have c1 := z8M (x := (k : Int)) (lo := 0) (hi := 2) (by omega)
 obtain ⟨e1, e2⟩ := pow2 hk
 have e1u : IntKind.u64.wrap ((k : Nat) : Int) = ((k : Nat) : Int) := by
  show ((k : Nat) : Int) % 18446744073709551616 = _
  omega
 generalize 2 ^ k = pk at e1 ⊢
 refine z01 z0f 1 rfl Tryz.func94 rfl rfl rfl ?_
 repeat ((try conv => whnf); first | (refine ccA ([]) (c1) ?_) | (refine And.intro (show _ ≤ (64 : Int) from by omega) ?_) | (refine Exists.intro _ (And.intro e1.symm ?_)) | (refine Exists.intro _ (And.intro e1u.symm ?_)) | (refine stpQ ?_))
 (refine z00 (by rfl) ?_ ?_ (by rfl)) <;> (repeat' (first | (exact eqA) | (refine shE ?_) | (refine And.intro ?_ ?_)))
theorem zhf (seed : Bs) (hs : seed.length ≤ 100) : CT Tryz.prog 90 [] [.str seed] (.sl 1 (strE (z0g seed 16))) [] := by
 refine z01 z0A 1 rfl Tryz.func90 rfl rfl rfl ?_
 repeat ((try conv => whnf); first | (refine stpQ ?_))
 refine z0i 0 ⟨[(3, .ref 1)], [(1, some (.row 1 (strE (z0g seed 16))))], 2⟩ Nat (fun b => ⟨[(0, .str seed), (3, .ref 1), (4, .int .i64 (b : Int))], [(1, some (.row 1 (strE (z0g seed b))))], 2⟩) (fun b => b ≤ 16) (fun b => 16 - b) 0 (by omega) ?_ ?_ ?_
 ·(refine z02 (by rfl) ?_ ?_) <;> (repeat' (first | (exact eqA) | (refine shE ?_) | (refine And.intro ?_ ?_))) <;> first | rfl | decide
 ·intro b hb
  by_cases hlt : b < 16
  ·have hb8 : (b : Int) < 16 := by omega
   have cs := z9Z seed b hs hlt
   have hnx := z7C seed b
   have hll := z0H seed b
   generalize z0g seed b = o at hnx hll ⊢
   generalize pubB seed b = k at cs hnx
   have hol := z0d o
   repeat ((try conv => whnf); first | (refine ccA ([]) (cs) ?_) | (refine And.intro (by simp [z0d]; omega) ?_) | (refine stpQ ?_))
   refine ⟨b + 1, by omega, by omega, ?_⟩
   rw [hnx]
   (refine z02 (by rfl) ?_ ?_) <;> (repeat' (first | (exact eqA) | (refine shE ?_) | (refine And.intro ?_ ?_)))
   rw [z1m]; rfl
  ·obtain rfl : b = 16 := by omega
   repeat ((try conv => whnf); first | (refine stpQ ?_))
   (refine z02 (by rfl) ?_ ?_) <;> (repeat' (first | (exact eqA) | (refine shE ?_) | (refine And.intro ?_ ?_)))
 ·repeat ((try conv => whnf); first | (refine stpQ ?_))
  (refine z00 (by rfl) ?_ ?_ (by rfl)) <;> (repeat' (first | (exact eqA) | (refine shE ?_) | (refine And.intro ?_ ?_)))
end Go.Proofs.YtkjjacndfieeoaaGreatDoor
namespace Go.Proofs.YtkjjacndfieeoaaGreatDoor
set_option linter.unusedVariables false
set_option linter.unusedSimpArgs false
set_option linter.unusedSectionVars false
open Go.RowKit Pl
attribute [local irreducible] z0m z0n z0q AnsP LeP
set_option maxRecDepth 100000 in
set_option maxHeartbeats 8000000 in
theorem zg6 (ho K : Int) (up : Bool) (fs : List Fl) (po : List Bs) (se : List Sa) (tr : List Int) (ty : Int) (ask : Bool) (vo : List Bs) (D : List (List T)) (hf : z9C fs) (h1 : po.length ≤ 1048576) (h2 : se.length ≤ 1048576) (h3 : ∀ x ∈ se, zdv x) (h4 : tr.length ≤ 1048576) (h5 : vo.length ≤ 1048576) (h6 : D.length ≤ 1048576) :
 CT Tryz.prog 12 [] [.agg [.int .i64 ho, .int .i64 K, .bool up, .sl 3 (flE fs), .sl 1 (strE po), .sl 8 (saL se), .sl 1 (isE tr), .int .i64 ty, .bool ask, .sl 1 (strE vo), .sl 1 D]] (.bool (zho ho K po se tr ty ask vo D.length (cvOf ho.toNat (z0N fs z0P)))) [] := by
 have c0 := z6A ho
 have c1 := z9U K
 have hvl := z0d vo
 unfold zho
 by_cases hho : 0 ≤ ho ∧ ho ≤ 2
 ·rw [z8C hho] at c0 ⊢
  rw [Bool.true_and]
  by_cases hK : 0 ≤ K ∧ K ≤ 2
  ·rw [z8C hK] at c1 ⊢
   rw [Bool.true_and]
   obtain ⟨h, rfl⟩ : ∃ n : Nat, ho = n := ⟨ho.toNat, by omega⟩
   obtain ⟨k, rfl⟩ : ∃ n : Nat, K = n := ⟨K.toNat, by omega⟩
   have hh : h ≤ 2 := by omega
   have hk : k ≤ 2 := by omega
   obtain ⟨e1, e2⟩ := pow2 hk
   have g := zaY hh (z0N fs z0P)
   have c2 := z7T h hh k hk fs hf
   rw [Int.toNat_natCast h, Int.toNat_natCast k]
   have gl := z1H g
   have gs := zcM g
   have gt := g.tl
   generalize cvOf h (z0N fs z0P) = s at c2 g gl gs gt ⊢
   have c3 := z2w po (z0g (z0j h) 16) (by omega) (by rw [z0H]; omega)
   have c4 := zbr se (s.se.map saOf) h2 (by simp; omega) h3 gs
   have c5 := zaS tr (tkI s.tr) (by omega) (by rw [ziJ]; omega)
   rw [show isE (tkI s.tr) = ntE s.tr from (ntE_is s.tr).symm] at c5
   rw [← ziU] at c4
   clear g gs
   obtain ⟨nse, ntr, nty⟩ := s
   unfold cvE at c2
   simp only at c2 c3 c4 c5 gl gt ⊢
   generalize z0g (z0j h) 16 = P at c2 c3 ⊢
   generalize decide (po = P) = b3 at c3 ⊢
   generalize decide (se = nse.map saOf) = b4 at c4 ⊢
   generalize decide (tr = tkI ntr) = b5 at c5 ⊢
   generalize emV (2 ^ k) = EV at c2
   generalize emD (2 ^ k) = ED at c2
   generalize saL se = SL at c4 ⊢
   generalize isE tr = TR at c5 ⊢
   generalize 2 ^ k = pk at e1 e2 ⊢
   by_cases q1 : vo.length = pk
   ·rw [decide_eq_true q1, Bool.true_and]
    have q1' : (vo.length : Int) = ((pk : Nat) : Int) := by omega
    by_cases q2 : D.length = pk
    ·rw [decide_eq_true q2, Bool.true_and]
     have q2' : (D.length : Int) = ((pk : Nat) : Int) := by omega
     cases b3 with
     | false =>
       rw [Bool.false_and]
       refine z01 z0f 1 rfl Tryz.func12 rfl rfl rfl ?_
       repeat ((try conv => whnf); first | (refine ccA ([]) (c0) ?_) | (refine ccA ([]) (c1) ?_) | (refine Exists.intro vo.length (And.intro hvl ?_)) | (refine And.intro (show _ ≤ (64 : Int) from by omega) ?_) | (refine Exists.intro _ (And.intro e1.symm ?_)) | (refine z0F q1' ?_) | (refine z0F q2' ?_) | (refine ccA ([]) (c2) ?_) | (refine ccA ([]) (c3) ?_) | (refine And.intro (by kernel_rfl) ?_) | (refine stpQ ?_))
       (refine z00 (by rfl) ?_ ?_ (by rfl)) <;> (repeat' (first | (exact eqA) | (refine shE ?_) | (refine And.intro ?_ ?_)))
     | true =>
       rw [Bool.true_and]
       cases b4 with
       | false =>
         rw [Bool.false_and]
         refine z01 z0f 1 rfl Tryz.func12 rfl rfl rfl ?_
         repeat ((try conv => whnf); first | (refine ccA ([]) (c0) ?_) | (refine ccA ([]) (c1) ?_) | (refine Exists.intro vo.length (And.intro hvl ?_)) | (refine And.intro (show _ ≤ (64 : Int) from by omega) ?_) | (refine Exists.intro _ (And.intro e1.symm ?_)) | (refine z0F q1' ?_) | (refine z0F q2' ?_) | (refine ccA ([]) (c2) ?_) | (refine ccA ([]) (c3) ?_) | (refine ccA ([]) (c4) ?_) | (refine And.intro (by kernel_rfl) ?_) | (refine stpQ ?_))
         (refine z00 (by rfl) ?_ ?_ (by rfl)) <;> (repeat' (first | (exact eqA) | (refine shE ?_) | (refine And.intro ?_ ?_)))
       | true =>
         rw [Bool.true_and]
         cases b5 with
         | false =>
           rw [Bool.false_and]
           refine z01 z0f 1 rfl Tryz.func12 rfl rfl rfl ?_
           repeat ((try conv => whnf); first | (refine ccA ([]) (c0) ?_) | (refine ccA ([]) (c1) ?_) | (refine Exists.intro vo.length (And.intro hvl ?_)) | (refine And.intro (show _ ≤ (64 : Int) from by omega) ?_) | (refine Exists.intro _ (And.intro e1.symm ?_)) | (refine z0F q1' ?_) | (refine z0F q2' ?_) | (refine ccA ([]) (c2) ?_) | (refine ccA ([]) (c3) ?_) | (refine ccA ([]) (c4) ?_) | (refine ccA ([]) (c5) ?_) | (refine And.intro (by kernel_rfl) ?_) | (refine stpQ ?_))
           (refine z00 (by rfl) ?_ ?_ (by rfl)) <;> (repeat' (first | (exact eqA) | (refine shE ?_) | (refine And.intro ?_ ?_)))
         | true =>
           rw [Bool.true_and]
           by_cases q3 : ty = (nty : Int)
           ·rw [decide_eq_true q3, Bool.true_and]
            refine z01 z0f 1 rfl Tryz.func12 rfl rfl rfl ?_
            repeat ((try conv => whnf); first | (refine ccA ([]) (c0) ?_) | (refine ccA ([]) (c1) ?_) | (refine Exists.intro vo.length (And.intro hvl ?_)) | (refine And.intro (show _ ≤ (64 : Int) from by omega) ?_) | (refine Exists.intro _ (And.intro e1.symm ?_)) | (refine z0F q1' ?_) | (refine z0F q2' ?_) | (refine ccA ([]) (c2) ?_) | (refine ccA ([]) (c3) ?_) | (refine ccA ([]) (c4) ?_) | (refine ccA ([]) (c5) ?_) | (refine And.intro (by kernel_rfl) ?_) | (refine stpQ ?_))
            refine z11 Nat (fun k2 => ⟨[(1, .ptr 1 0 0), (71, .sl 1 (strE vo)), (72, .int .i64 (vo.length : Int)), (73, .int .i64 (k2 : Int))], [(1, some (.box [.int .i64 (h : Int), .int .i64 (k : Int), .bool up, .sl 3 (flE fs), .sl 1 (strE po), .sl 8 SL, .sl 1 TR, .int .i64 ty, .bool ask, .sl 1 (strE vo), .sl 1 D]))], 2⟩)
             (fun j => j ≤ vo.length ∧ ∀ i, i < j → z6N ask vo i = true) (fun j => vo.length - j) 0 ⟨by omega, fun i hi => by omega⟩ ?_ ?_
            ·(refine z02 (by rfl) ?_ ?_) <;> repeat' (first | (exact eqA) | (refine shE ?_) | (refine And.intro ?_ ?_))
            ·intro Q1 hQ1 j hj
             have hj1 := hj.1
             have hj2 := hj.2
             clear hj
             by_cases hlt : j < vo.length
             ·have gv := z0v hlt
              have hfin : z6N ask vo j = false → allB (z6N ask vo) vo.length = false := fun h => zjg hlt h
              have hgo : z6N ask vo j = true → ∀ i, i < j + 1 → z6N ask vo i = true := fun h i hi => by
               rcases Nat.lt_or_ge i j with h1 | h1
               ·exact hj2 i h1
               ·rw [show i = j by omega]; exact h
              have hV : z6N ask vo j = (decide (pAt vo j = []) || (ask && decide (((pAt vo j).length : Int) = 16))) := rfl
              clear hj2
              generalize z6N ask vo j = B at hfin hgo hV
              generalize pAt vo j = v at gv hV
              by_cases w1 : v = []
              ·have hB : B = true := by rw [hV, decide_eq_true w1]; rfl
               repeat ((try conv => whnf); first | (refine i_at gv ?_) | (refine z0F w1 ?_) | (refine And.intro (by kernel_rfl) ?_) | (refine stpQ ?_))
               refine ⟨j + 1, ⟨by omega, hgo hB⟩, by omega, ?_⟩
               (refine z02 (by rfl) ?_ ?_) <;> repeat' (first | (exact eqA) | (refine shE ?_) | (refine And.intro ?_ ?_))
              ·cases ask with
               | false =>
                 have hB : B = false := by rw [hV, decide_eq_false w1]; rfl
                 repeat ((try conv => whnf); first | (refine i_at gv ?_) | (refine z2y w1 ?_) | (refine And.intro (by kernel_rfl) ?_) | (refine stpQ ?_))
                 refine hQ1 _ _ ?_
                 (try conv => whnf)
                 rw [hfin hB]
                 (refine z00 (by rfl) ?_ ?_ (by rfl)) <;> repeat' (first | (exact eqA) | (refine shE ?_) | (refine And.intro ?_ ?_))
               | true =>
                 by_cases w2 : (v.length : Int) = 16
                 ·have hB : B = true := by rw [hV, decide_eq_true w2]; simp
                  repeat ((try conv => whnf); first | (refine i_at gv ?_) | (refine z2y w1 ?_) | (refine z0F w2 ?_) | (refine And.intro (by kernel_rfl) ?_) | (refine stpQ ?_))
                  refine ⟨j + 1, ⟨by omega, hgo hB⟩, by omega, ?_⟩
                  (refine z02 (by rfl) ?_ ?_) <;> repeat' (first | (exact eqA) | (refine shE ?_) | (refine And.intro ?_ ?_))
                 ·have hB : B = false := by rw [hV, decide_eq_false w1, decide_eq_false w2]; rfl
                  repeat ((try conv => whnf); first | (refine i_at gv ?_) | (refine z2y w1 ?_) | (refine z2y w2 ?_) | (refine And.intro (by kernel_rfl) ?_) | (refine stpQ ?_))
                  refine hQ1 _ _ ?_
                  (try conv => whnf)
                  rw [hfin hB]
                  (refine z00 (by rfl) ?_ ?_ (by rfl)) <;> repeat' (first | (exact eqA) | (refine shE ?_) | (refine And.intro ?_ ?_))
             ·have hje : j = vo.length := by omega
              subst hje
              have hA := zcL hj2
              repeat ((try conv => whnf); first | (refine stpQ ?_))
              refine hQ1 _ _ ?_
              repeat ((try conv => whnf); first | (refine stpQ ?_))
              rw [hA]
              (refine z00 (by rfl) ?_ ?_ (by rfl)) <;> repeat' (first | (exact eqA) | (refine shE ?_) | (refine And.intro ?_ ?_))
           ·rw [decide_eq_false q3, Bool.false_and]
            refine z01 z0f 1 rfl Tryz.func12 rfl rfl rfl ?_
            repeat ((try conv => whnf); first | (refine ccA ([]) (c0) ?_) | (refine ccA ([]) (c1) ?_) | (refine Exists.intro vo.length (And.intro hvl ?_)) | (refine And.intro (show _ ≤ (64 : Int) from by omega) ?_) | (refine Exists.intro _ (And.intro e1.symm ?_)) | (refine z0F q1' ?_) | (refine z0F q2' ?_) | (refine ccA ([]) (c2) ?_) | (refine ccA ([]) (c3) ?_) | (refine ccA ([]) (c4) ?_) | (refine ccA ([]) (c5) ?_) | (refine z2y q3 ?_) | (refine And.intro (by kernel_rfl) ?_) | (refine stpQ ?_))
            (refine z00 (by rfl) ?_ ?_ (by rfl)) <;> (repeat' (first | (exact eqA) | (refine shE ?_) | (refine And.intro ?_ ?_)))
    ·rw [decide_eq_false q2, Bool.false_and]
     have q2' : ¬ (D.length : Int) = ((pk : Nat) : Int) := by omega
     refine z01 z0f 1 rfl Tryz.func12 rfl rfl rfl ?_
     repeat ((try conv => whnf); first | (refine ccA ([]) (c0) ?_) | (refine ccA ([]) (c1) ?_) | (refine Exists.intro vo.length (And.intro hvl ?_)) | (refine And.intro (show _ ≤ (64 : Int) from by omega) ?_) | (refine Exists.intro _ (And.intro e1.symm ?_)) | (refine z0F q1' ?_) | (refine z2y q2' ?_) | (refine And.intro (by kernel_rfl) ?_) | (refine stpQ ?_))
     (refine z00 (by rfl) ?_ ?_ (by rfl)) <;> (repeat' (first | (exact eqA) | (refine shE ?_) | (refine And.intro ?_ ?_)))
   ·rw [decide_eq_false q1, Bool.false_and]
    have q1' : ¬ (vo.length : Int) = ((pk : Nat) : Int) := by omega
    refine z01 z0f 1 rfl Tryz.func12 rfl rfl rfl ?_
    repeat ((try conv => whnf); first | (refine ccA ([]) (c0) ?_) | (refine ccA ([]) (c1) ?_) | (refine Exists.intro vo.length (And.intro hvl ?_)) | (refine And.intro (show _ ≤ (64 : Int) from by omega) ?_) | (refine Exists.intro _ (And.intro e1.symm ?_)) | (refine z2y q1' ?_) | (refine And.intro (by kernel_rfl) ?_) | (refine stpQ ?_))
    (refine z00 (by rfl) ?_ ?_ (by rfl)) <;> (repeat' (first | (exact eqA) | (refine shE ?_) | (refine And.intro ?_ ?_)))
  ·rw [z8B hK] at c1 ⊢
   rw [Bool.false_and]
   refine z01 z0f 1 rfl Tryz.func12 rfl rfl rfl ?_
   repeat ((try conv => whnf); first | (refine ccA ([]) (c0) ?_) | (refine ccA ([]) (c1) ?_) | (refine And.intro (by kernel_rfl) ?_) | (refine stpQ ?_))
   (refine z00 (by rfl) ?_ ?_ (by rfl)) <;> (repeat' (first | (exact eqA) | (refine shE ?_) | (refine And.intro ?_ ?_)))
 ·rw [z8B hho] at c0 ⊢
  rw [Bool.false_and]
  refine z01 z0f 1 rfl Tryz.func12 rfl rfl rfl ?_
  repeat ((try conv => whnf); first | (refine ccA ([]) (c0) ?_) | (refine And.intro (by kernel_rfl) ?_) | (refine stpQ ?_))
  (refine z00 (by rfl) ?_ ?_ (by rfl)) <;> (repeat' (first | (exact eqA) | (refine shE ?_) | (refine And.intro ?_ ?_)))
end Go.Proofs.YtkjjacndfieeoaaGreatDoor
