/- Functions by content: the program's check of a coordinator. -/
import Derived.Test.YthcfalipgnpelaaGreatDoorCbn
import Derived.Test.YthcfalipgnpelaaGreatDoorCbs
namespace Go.Proofs.YthcfalipgnpelaaGreatDoor
set_option linter.unusedVariables false
set_option linter.unusedSimpArgs false
set_option linter.unusedSectionVars false
open Go.RowKit Pl
attribute [local irreducible] z0o z0p z0z AnsP LeP
set_option maxRecDepth 100000 in
set_option maxHeartbeats 8000000 in
theorem zbM (ho K : Int) (up : Bool) (fs : List Fl) (po : List Bs) (se : List Sa) (tr : List Int) (ty : Int) (ask : Bool) (vo : List Bs) (D : List (List T)) (hf : z50 fs) (h1 : po.length ≤ 1048576) (h2 : se.length ≤ 1048576) (h3 : ∀ x ∈ se, z6C x) (h4 : tr.length ≤ 1048576) (h5 : vo.length ≤ 1048576) (h6 : D.length ≤ 1048576) :
 CT Tryz.prog 15 [] [.agg [.int .i64 ho, .int .i64 K, .bool up, .sl 3 (flE fs), .sl 1 (strE po), .sl 8 (saL se), .sl 1 (isE tr), .int .i64 ty, .bool ask, .sl 1 (strE vo), .sl 1 D]] (.bool (zfI ho K po se tr ty ask vo D.length (cvOf ho.toNat (z0i fs z0M)))) [] := by
 have c0 := z7Y ho
 have c1 := zbr K
 have hvl := z05 vo
 unfold zfI
 by_cases hho : 0 ≤ ho ∧ ho ≤ 2
 ·rw [z0R hho] at c0 ⊢
  rw [Bool.true_and]
  by_cases hK : 0 ≤ K ∧ K ≤ 2
  ·rw [z0R hK] at c1 ⊢
   rw [Bool.true_and]
   obtain ⟨h, rfl⟩ : ∃ n : Nat, ho = n := ⟨ho.toNat, by omega⟩
   obtain ⟨k, rfl⟩ : ∃ n : Nat, K = n := ⟨K.toNat, by omega⟩
   have hh : h ≤ 2 := by omega
   have hk : k ≤ 2 := by omega
   obtain ⟨e1, e2⟩ := pow2 hk
   have g := z80 hh (z0i fs z0M)
   have c2 := zfF h hh k hk fs hf
   rw [Int.toNat_natCast h, Int.toNat_natCast k]
   have gl := zbA g
   have gs := zkj g
   have gt := g.tl
   generalize cvOf h (z0i fs z0M) = s at c2 g gl gs gt ⊢
   have c3 := z3k po (z2B (z3U h) 16) (by omega) (by rw [z3E]; omega)
   have c4 := zd7 se (s.se.map saOf) h2 (by simp; omega) h3 gs
   have c5 := z88 tr (tkI s.tr) (by omega) (by rw [z58]; omega)
   rw [show isE (tkI s.tr) = ntE s.tr from (zbK s.tr).symm] at c5
   rw [← zhT] at c4
   clear g gs
   obtain ⟨nse, ntr, nty⟩ := s
   unfold cvE at c2
   simp only at c2 c3 c4 c5 gl gt ⊢
   generalize z2B (z3U h) 16 = P at c2 c3 ⊢
   generalize decide (po = P) = b3 at c3 ⊢
   generalize decide (se = nse.map saOf) = b4 at c4 ⊢
   generalize decide (tr = tkI ntr) = b5 at c5 ⊢
   generalize emV (2 ^ k) = EV at c2
   generalize emD (2 ^ k) = ED at c2
   generalize saL se = SL at c4 ⊢
   generalize isE tr = TR at c5 ⊢
   generalize 2 ^ k = pk at e1 e2 ⊢
   by_cases q1 : vo.length = pk
   ·rw [decide_eq_true q1, Bool.true_and]
    have q1' : (vo.length : Int) = ((pk : Nat) : Int) := by omega
    by_cases q2 : D.length = pk
    ·rw [decide_eq_true q2, Bool.true_and]
     have q2' : (D.length : Int) = ((pk : Nat) : Int) := by omega
     cases b3 with
     | false =>
       rw [Bool.false_and]
       refine z01 z03 1 rfl Tryz.func15 rfl rfl rfl ?_
       repeat ((try conv => whnf); first | (refine ccA ([]) (c0) ?_) | (refine ccA ([]) (c1) ?_) | (refine Exists.intro vo.length (And.intro hvl ?_)) | (refine And.intro (show _ ≤ (64 : Int) from by omega) ?_) | (refine Exists.intro _ (And.intro e1.symm ?_)) | (refine z0A q1' ?_) | (refine z0A q2' ?_) | (refine ccA ([]) (c2) ?_) | (refine ccA ([]) (c3) ?_) | (refine And.intro (by kernel_rfl) ?_) | (refine stpQ ?_))
       (refine z00 (by rfl) ?_ ?_ (by rfl)) <;> (repeat' (first | (exact eqA) | (refine shE ?_) | (refine And.intro ?_ ?_)))
     | true =>
       rw [Bool.true_and]
       cases b4 with
       | false =>
         rw [Bool.false_and]
         refine z01 z03 1 rfl Tryz.func15 rfl rfl rfl ?_
         repeat ((try conv => whnf); first | (refine ccA ([]) (c0) ?_) | (refine ccA ([]) (c1) ?_) | (refine Exists.intro vo.length (And.intro hvl ?_)) | (refine And.intro (show _ ≤ (64 : Int) from by omega) ?_) | (refine Exists.intro _ (And.intro e1.symm ?_)) | (refine z0A q1' ?_) | (refine z0A q2' ?_) | (refine ccA ([]) (c2) ?_) | (refine ccA ([]) (c3) ?_) | (refine ccA ([]) (c4) ?_) | (refine And.intro (by kernel_rfl) ?_) | (refine stpQ ?_))
         (refine z00 (by rfl) ?_ ?_ (by rfl)) <;> (repeat' (first | (exact eqA) | (refine shE ?_) | (refine And.intro ?_ ?_)))
       | true =>
         rw [Bool.true_and]
         cases b5 with
         | false =>
           rw [Bool.false_and]
           refine z01 z03 1 rfl Tryz.func15 rfl rfl rfl ?_
           repeat ((try conv => whnf); first | (refine ccA ([]) (c0) ?_) | (refine ccA ([]) (c1) ?_) | (refine Exists.intro vo.length (And.intro hvl ?_)) | (refine And.intro (show _ ≤ (64 : Int) from by omega) ?_) | (refine Exists.intro _ (And.intro e1.symm ?_)) | (refine z0A q1' ?_) | (refine z0A q2' ?_) | (refine ccA ([]) (c2) ?_) | (refine ccA ([]) (c3) ?_) | (refine ccA ([]) (c4) ?_) | (refine ccA ([]) (c5) ?_) | (refine And.intro (by kernel_rfl) ?_) | (refine stpQ ?_))
           (refine z00 (by rfl) ?_ ?_ (by rfl)) <;> (repeat' (first | (exact eqA) | (refine shE ?_) | (refine And.intro ?_ ?_)))
         | true =>
           rw [Bool.true_and]
           by_cases q3 : ty = (nty : Int)
           ·rw [decide_eq_true q3, Bool.true_and]
            refine z01 z03 1 rfl Tryz.func15 rfl rfl rfl ?_
            repeat ((try conv => whnf); first | (refine ccA ([]) (c0) ?_) | (refine ccA ([]) (c1) ?_) | (refine Exists.intro vo.length (And.intro hvl ?_)) | (refine And.intro (show _ ≤ (64 : Int) from by omega) ?_) | (refine Exists.intro _ (And.intro e1.symm ?_)) | (refine z0A q1' ?_) | (refine z0A q2' ?_) | (refine ccA ([]) (c2) ?_) | (refine ccA ([]) (c3) ?_) | (refine ccA ([]) (c4) ?_) | (refine ccA ([]) (c5) ?_) | (refine And.intro (by kernel_rfl) ?_) | (refine stpQ ?_))
            refine z0K Nat (fun k2 => ⟨[(1, .ptr 1 0 0), (71, .sl 1 (strE vo)), (72, .int .i64 (vo.length : Int)), (73, .int .i64 (k2 : Int))], [(1, some (.box [.int .i64 (h : Int), .int .i64 (k : Int), .bool up, .sl 3 (flE fs), .sl 1 (strE po), .sl 8 SL, .sl 1 TR, .int .i64 ty, .bool ask, .sl 1 (strE vo), .sl 1 D]))], 2⟩)
             (fun j => j ≤ vo.length ∧ ∀ i, i < j → z59 ask vo i = true) (fun j => vo.length - j) 0 ⟨by omega, fun i hi => by omega⟩ ?_ ?_
            ·(refine z02 (by rfl) ?_ ?_) <;> repeat' (first | (exact eqA) | (refine shE ?_) | (refine And.intro ?_ ?_))
            ·intro Q1 hQ1 j hj
             have hj1 := hj.1
             have hj2 := hj.2
             clear hj
             by_cases hlt : j < vo.length
             ·have gv := z0j hlt
              have hfin : z59 ask vo j = false → allB (z59 ask vo) vo.length = false := fun h => z2H hlt h
              have hgo : z59 ask vo j = true → ∀ i, i < j + 1 → z59 ask vo i = true := fun h i hi => by
               rcases Nat.lt_or_ge i j with h1 | h1
               ·exact hj2 i h1
               ·rw [show i = j by omega]; exact h
              have hV : z59 ask vo j = (decide (pAt vo j = []) || (ask && decide (((pAt vo j).length : Int) = 16))) := rfl
              clear hj2
              generalize z59 ask vo j = B at hfin hgo hV
              generalize pAt vo j = v at gv hV
              by_cases w1 : v = []
              ·have hB : B = true := by rw [hV, decide_eq_true w1]; rfl
               repeat ((try conv => whnf); first | (refine i_at gv ?_) | (refine z0A w1 ?_) | (refine And.intro (by kernel_rfl) ?_) | (refine stpQ ?_))
               refine ⟨j + 1, ⟨by omega, hgo hB⟩, by omega, ?_⟩
               (refine z02 (by rfl) ?_ ?_) <;> repeat' (first | (exact eqA) | (refine shE ?_) | (refine And.intro ?_ ?_))
              ·cases ask with
               | false =>
                 have hB : B = false := by rw [hV, decide_eq_false w1]; rfl
                 repeat ((try conv => whnf); first | (refine i_at gv ?_) | (refine z1w w1 ?_) | (refine And.intro (by kernel_rfl) ?_) | (refine stpQ ?_))
                 refine hQ1 _ _ ?_
                 (try conv => whnf)
                 rw [hfin hB]
                 (refine z00 (by rfl) ?_ ?_ (by rfl)) <;> repeat' (first | (exact eqA) | (refine shE ?_) | (refine And.intro ?_ ?_))
               | true =>
                 by_cases w2 : (v.length : Int) = 16
                 ·have hB : B = true := by rw [hV, decide_eq_true w2]; simp
                  repeat ((try conv => whnf); first | (refine i_at gv ?_) | (refine z1w w1 ?_) | (refine z0A w2 ?_) | (refine And.intro (by kernel_rfl) ?_) | (refine stpQ ?_))
                  refine ⟨j + 1, ⟨by omega, hgo hB⟩, by omega, ?_⟩
                  (refine z02 (by rfl) ?_ ?_) <;> repeat' (first | (exact eqA) | (refine shE ?_) | (refine And.intro ?_ ?_))
                 ·have hB : B = false := by rw [hV, decide_eq_false w1, decide_eq_false w2]; rfl
                  repeat ((try conv => whnf); first | (refine i_at gv ?_) | (refine z1w w1 ?_) | (refine z1w w2 ?_) | (refine And.intro (by kernel_rfl) ?_) | (refine stpQ ?_))
                  refine hQ1 _ _ ?_
                  (try conv => whnf)
                  rw [hfin hB]
                  (refine z00 (by rfl) ?_ ?_ (by rfl)) <;> repeat' (first | (exact eqA) | (refine shE ?_) | (refine And.intro ?_ ?_))
             ·have hje : j = vo.length := by omega
              subst hje
              have hA := z1X hj2
              repeat ((try conv => whnf); first | (refine stpQ ?_))
              refine hQ1 _ _ ?_
              repeat ((try conv => whnf); first | (refine stpQ ?_))
              rw [hA]
              (refine z00 (by rfl) ?_ ?_ (by rfl)) <;> repeat' (first | (exact eqA) | (refine shE ?_) | (refine And.intro ?_ ?_))
           ·rw [decide_eq_false q3, Bool.false_and]
            refine z01 z03 1 rfl Tryz.func15 rfl rfl rfl ?_
            repeat ((try conv => whnf); first | (refine ccA ([]) (c0) ?_) | (refine ccA ([]) (c1) ?_) | (refine Exists.intro vo.length (And.intro hvl ?_)) | (refine And.intro (show _ ≤ (64 : Int) from by omega) ?_) | (refine Exists.intro _ (And.intro e1.symm ?_)) | (refine z0A q1' ?_) | (refine z0A q2' ?_) | (refine ccA ([]) (c2) ?_) | (refine ccA ([]) (c3) ?_) | (refine ccA ([]) (c4) ?_) | (refine ccA ([]) (c5) ?_) | (refine z1w q3 ?_) | (refine And.intro (by kernel_rfl) ?_) | (refine stpQ ?_))
            (refine z00 (by rfl) ?_ ?_ (by rfl)) <;> (repeat' (first | (exact eqA) | (refine shE ?_) | (refine And.intro ?_ ?_)))
    ·rw [decide_eq_false q2, Bool.false_and]
     have q2' : ¬ (D.length : Int) = ((pk : Nat) : Int) := by omega
     refine z01 z03 1 rfl Tryz.func15 rfl rfl rfl ?_
     repeat ((try conv => whnf); first | (refine ccA ([]) (c0) ?_) | (refine ccA ([]) (c1) ?_) | (refine Exists.intro vo.length (And.intro hvl ?_)) | (refine And.intro (show _ ≤ (64 : Int) from by omega) ?_) | (refine Exists.intro _ (And.intro e1.symm ?_)) | (refine z0A q1' ?_) | (refine z1w q2' ?_) | (refine And.intro (by kernel_rfl) ?_) | (refine stpQ ?_))
     (refine z00 (by rfl) ?_ ?_ (by rfl)) <;> (repeat' (first | (exact eqA) | (refine shE ?_) | (refine And.intro ?_ ?_)))
   ·rw [decide_eq_false q1, Bool.false_and]
    have q1' : ¬ (vo.length : Int) = ((pk : Nat) : Int) := by omega
    refine z01 z03 1 rfl Tryz.func15 rfl rfl rfl ?_
    repeat ((try conv => whnf); first | (refine ccA ([]) (c0) ?_) | (refine ccA ([]) (c1) ?_) | (refine Exists.intro vo.length (And.intro hvl ?_)) | (refine And.intro (show _ ≤ (64 : Int) from by omega) ?_) | (refine Exists.intro _ (And.intro e1.symm ?_)) | (refine z1w q1' ?_) | (refine And.intro (by kernel_rfl) ?_) | (refine stpQ ?_))
    (refine z00 (by rfl) ?_ ?_ (by rfl)) <;> (repeat' (first | (exact eqA) | (refine shE ?_) | (refine And.intro ?_ ?_)))
  ·rw [z21 hK] at c1 ⊢
   rw [Bool.false_and]
   refine z01 z03 1 rfl Tryz.func15 rfl rfl rfl ?_
   repeat ((try conv => whnf); first | (refine ccA ([]) (c0) ?_) | (refine ccA ([]) (c1) ?_) | (refine And.intro (by kernel_rfl) ?_) | (refine stpQ ?_))
   (refine z00 (by rfl) ?_ ?_ (by rfl)) <;> (repeat' (first | (exact eqA) | (refine shE ?_) | (refine And.intro ?_ ?_)))
 ·rw [z21 hho] at c0 ⊢
  rw [Bool.false_and]
  refine z01 z03 1 rfl Tryz.func15 rfl rfl rfl ?_
  repeat ((try conv => whnf); first | (refine ccA ([]) (c0) ?_) | (refine And.intro (by kernel_rfl) ?_) | (refine stpQ ?_))
  (refine z00 (by rfl) ?_ ?_ (by rfl)) <;> (repeat' (first | (exact eqA) | (refine shE ?_) | (refine And.intro ?_ ?_)))
end Go.Proofs.YthcfalipgnpelaaGreatDoor
