/- Functions by content: the reference's check of a coordinator; both checks agree. -/
import Derived.Test.YthcfalipgnpelaaGreatDoorVd
import Derived.Test.YthcfalipgnpelaaGreatDoorCsn
import Derived.Test.YthcfalipgnpelaaGreatDoorCs
import Derived.Test.YthcfalipgnpelaaGreatDoorCib
namespace Go.Proofs.YthcfalipgnpelaaGreatDoor
set_option linter.unusedVariables false
set_option linter.unusedSimpArgs false
set_option linter.unusedSectionVars false
open Go.RowKit Pl
section
attribute [local irreducible] z0o z0p z0z AnsP LeP
set_option maxRecDepth 100000 in
set_option maxHeartbeats 16000000 in
theorem z9c (ho K : Int) (up : Bool) (fs : List Fl) (po : List Bs) (se : List Sa) (tr : List Int) (ty : Int) (ask : Bool) (vo : List Bs) (D : List (List T)) (hf : z50 fs) (h1 : po.length ≤ 1048576) (h2 : se.length ≤ 1048576) (h3 : ∀ x ∈ se, z6C x) (h4 : tr.length ≤ 1048576) (h5 : vo.length ≤ 1048576) (h6 : D.length ≤ 1048576) :
 CT Tryz.prog 13 [] [.agg [.int .i64 ho, .int .i64 K, .bool up, .sl 3 (flE fs), .sl 1 (strE po), .sl 8 (saL se), .sl 1 (isE tr), .int .i64 ty, .bool ask, .sl 1 (strE vo), .sl 1 D]] (.bool (zfI ho K po se tr ty ask vo D.length (cvOf ho.toNat (z0i fs z0M)))) [] := by
 have c0 := z1f ho 0 2
 have c1 := z1f K 0 2
 have hvl := z05 vo
 have htl := z5M tr
 unfold zfI
 by_cases hho : 0 ≤ ho ∧ ho ≤ 2
 ·rw [z0R hho] at c0 ⊢
  rw [Bool.true_and]
  by_cases hK : 0 ≤ K ∧ K ≤ 2
  ·rw [z0R hK] at c1 ⊢
   rw [Bool.true_and]
   obtain ⟨h, rfl⟩ : ∃ n : Nat, ho = n := ⟨ho.toNat, by omega⟩
   obtain ⟨k, rfl⟩ : ∃ n : Nat, K = n := ⟨K.toNat, by omega⟩
   have hh : h ≤ 2 := by omega
   have hk : k ≤ 2 := by omega
   obtain ⟨-, e2⟩ := pow2 hk
   have g := z80 hh (z0i fs z0M)
   have c2 := zd6 h hh k hk fs hf
   rw [Int.toNat_natCast h, Int.toNat_natCast k]
   have gl := zbA g
   have gt := g.tl
   have gsg := g.sg
   generalize cvOf h (z0i fs z0M) = s at c2 g gl gt gsg ⊢
   have c3 := z8v (z2B (z3U h) 16) po (by rw [z3E]; omega) (by omega)
   rw [show decide (z2B (z3U h) 16 = po) = decide (po = z2B (z3U h) 16) by simp [eq_comm]] at c3
   have c4 := z8w s.se se (by omega) h2 gsg h3
   clear g gsg
   obtain ⟨nse, ntr, nty⟩ := s
   unfold cvE at c2
   simp only at c2 c3 c4 gl gt ⊢
   have hnt : (ntE ntr).length = ntr.length := by simp [ntE]
   have hkl := z58 ntr
   have hev : (emV (2 ^ k)).length = 2 ^ k := by simp [emV]
   have hed : (emD (2 ^ k)).length = 2 ^ k := by simp [emD]
   generalize z2B (z3U h) 16 = P at c2 c3 ⊢
   generalize decide (po = P) = b3 at c3 ⊢
   generalize decide (se = nse.map saOf) = b4 at c4 ⊢
   generalize emV (2 ^ k) = EV at c2 hev
   generalize emD (2 ^ k) = ED at c2 hed
   generalize saL se = SL at c4 ⊢
   generalize 2 ^ k = pk at e2 hev hed ⊢
   cases b3 with
   | false =>
     simp only [Bool.false_and, Bool.and_false]
     refine z01 z03 1 rfl Tryz.func13 rfl rfl rfl ?_
     repeat ((try conv => whnf); first | (refine ccA ([]) (c0) ?_) | (refine ccA ([]) (c1) ?_) | (refine ccA ([]) (c2) ?_) | (refine ccA ([]) (c3) ?_) | (refine And.intro (by kernel_rfl) ?_) | (refine stpQ ?_))
     (refine z00 (by rfl) ?_ ?_ (by rfl)) <;> (repeat' (first | (exact eqA) | (refine shE ?_) | (refine And.intro ?_ ?_)))
   | true =>
     cases b4 with
     | false =>
       simp only [Bool.false_and, Bool.and_false]
       refine z01 z03 1 rfl Tryz.func13 rfl rfl rfl ?_
       repeat ((try conv => whnf); first | (refine ccA ([]) (c0) ?_) | (refine ccA ([]) (c1) ?_) | (refine ccA ([]) (c2) ?_) | (refine ccA ([]) (c3) ?_) | (refine ccA ([]) (c4) ?_) | (refine And.intro (by kernel_rfl) ?_) | (refine stpQ ?_))
       (refine z00 (by rfl) ?_ ?_ (by rfl)) <;> (repeat' (first | (exact eqA) | (refine shE ?_) | (refine And.intro ?_ ?_)))
     | true =>
       simp only [Bool.true_and]
       by_cases q5 : tr.length = ntr.length
       ·by_cases q3 : ty = (nty : Int)
        ·rw [decide_eq_true q3, Bool.true_and]
         have q5' : (ntr.length : Int) = (tr.length : Int) := by omega
         have q3' : (nty : Int) = ty := q3.symm
         by_cases q1 : vo.length = pk
         ·rw [decide_eq_true q1, Bool.true_and]
          by_cases q2 : D.length = pk
          ·rw [decide_eq_true q2, Bool.true_and]
           have q1' : (vo.length : Int) = (pk : Int) := by omega
           have q2' : (D.length : Int) = (pk : Int) := by omega
           refine z01 z03 1 rfl Tryz.func13 rfl rfl rfl ?_
           repeat ((try conv => whnf); first | (refine ccA ([]) (c0) ?_) | (refine ccA ([]) (c1) ?_) | (refine ccA ([]) (c2) ?_) | (refine ccA ([]) (c3) ?_) | (refine ccA ([]) (c4) ?_) | (refine Exists.intro vo.length (And.intro hvl ?_)) | (refine Exists.intro tr.length (And.intro htl ?_)) | (refine Exists.intro ntr.length (And.intro hnt ?_)) | (refine Exists.intro pk (And.intro hev ?_)) | (refine Exists.intro pk (And.intro hed ?_)) | (refine z0A q5' ?_) | (refine z0A q3' ?_) | (refine z0A q1' ?_) | (refine z0A q2' ?_) | (refine And.intro (by kernel_rfl) ?_) | (refine stpQ ?_))
           refine z0K Nat (fun j => ⟨[(1, .ptr 1 0 0), (3, .ptr 2 0 0), (4, .int .i64 (j : Int))], [(1, some (.box [.int .i64 (h : Int), .int .i64 (k : Int), .bool up, .sl 3 (flE fs), .sl 1 (strE po), .sl 8 SL, .sl 1 (isE tr), .int .i64 ty, .bool ask, .sl 1 (strE vo), .sl 1 D])), (2, some (.box [.int .i64 (h : Int), .int .i64 (k : Int), .bool true, .sl 3 (flE fs), .sl 1 (strE P), .sl 8 (slE nse), .sl 1 (ntE ntr), .int .i64 (nty : Int), .bool false, .sl 1 EV, .sl 1 ED]))], 3⟩)
            (fun j => j ≤ tr.length ∧ tr.take j = (tkI ntr).take j) (fun j => tr.length - j) 0 ⟨by omega, rfl⟩ ?_ ?_
           ·(refine z02 (by rfl) ?_ ?_) <;> repeat' (first | (exact eqA) | (refine shE ?_) | (refine And.intro ?_ ?_))
           ·intro Q1 hQ1 j hj
            have hj1 := hj.1
            have hj2 := hj.2
            clear hj
            by_cases hlt : j < tr.length
            ·have gt1 := z6v hlt
             have gt2 : (ntE ntr)[j]? = some [.int .i64 (isAt (tkI ntr) j)] := by rw [zbK]; exact z6v (l := tkI ntr) (by omega)
             by_cases w : isAt tr j = isAt (tkI ntr) j
             ·have hnx : tr.take (j + 1) = (tkI ntr).take (j + 1) := by rw [z6f tr j hlt, z6f (tkI ntr) j (by omega), hj2, w]
              repeat ((try conv => whnf); first | (refine Exists.intro vo.length (And.intro hvl ?_)) | (refine Exists.intro tr.length (And.intro htl ?_)) | (refine Exists.intro ntr.length (And.intro hnt ?_)) | (refine Exists.intro pk (And.intro hev ?_)) | (refine Exists.intro pk (And.intro hed ?_)) | (refine i_at gt1 ?_) | (refine i_at gt2 ?_) | (refine z0A w ?_) | (refine And.intro (by kernel_rfl) ?_) | (refine stpQ ?_))
              refine ⟨j + 1, ⟨by omega, hnx⟩, by omega, ?_⟩
              (refine z02 (by rfl) ?_ ?_) <;> repeat' (first | (exact eqA) | (refine shE ?_) | (refine And.intro ?_ ?_))
             ·have hne : ¬ tr = tkI ntr := fun e => w (by rw [e])
              repeat ((try conv => whnf); first | (refine Exists.intro vo.length (And.intro hvl ?_)) | (refine Exists.intro tr.length (And.intro htl ?_)) | (refine Exists.intro ntr.length (And.intro hnt ?_)) | (refine Exists.intro pk (And.intro hev ?_)) | (refine Exists.intro pk (And.intro hed ?_)) | (refine i_at gt1 ?_) | (refine i_at gt2 ?_) | (refine z1w w ?_) | (refine And.intro (by kernel_rfl) ?_) | (refine stpQ ?_))
              refine hQ1 _ _ ?_
              (try conv => whnf)
              rw [decide_eq_false hne, Bool.false_and]
              (refine z00 (by rfl) ?_ ?_ (by rfl)) <;> repeat' (first | (exact eqA) | (refine shE ?_) | (refine And.intro ?_ ?_))
            ·have hje : j = tr.length := by omega
             subst hje
             have htt : tr = tkI ntr := by
              rw [List.take_of_length_le (by omega), List.take_of_length_le (by omega)] at hj2; exact hj2
             clear hj2
             repeat ((try conv => whnf); first | (refine Exists.intro vo.length (And.intro hvl ?_)) | (refine Exists.intro tr.length (And.intro htl ?_)) | (refine Exists.intro ntr.length (And.intro hnt ?_)) | (refine Exists.intro pk (And.intro hev ?_)) | (refine Exists.intro pk (And.intro hed ?_)) | (refine stpQ ?_))
             refine hQ1 _ _ ?_
             repeat ((try conv => whnf); first | (refine stpQ ?_))
             rw [decide_eq_true htt, Bool.true_and]
             refine z0K Nat (fun j => ⟨[(1, .ptr 1 0 0), (5, .int .i64 (j : Int))], [(1, some (.box [.int .i64 (h : Int), .int .i64 (k : Int), .bool up, .sl 3 (flE fs), .sl 1 (strE po), .sl 8 SL, .sl 1 (isE tr), .int .i64 ty, .bool ask, .sl 1 (strE vo), .sl 1 D]))], 2⟩)
              (fun j => j ≤ vo.length ∧ ∀ i, i < j → z59 ask vo i = true) (fun j => vo.length - j) 0 ⟨by omega, fun i hi => by omega⟩ ?_ ?_
             ·(refine z02 (by rfl) ?_ ?_) <;> repeat' (first | (exact eqA) | (refine shE ?_) | (refine And.intro ?_ ?_))
             ·intro Q2 hQ2 j hj
              have hj1 := hj.1
              have hj2 := hj.2
              clear hj
              by_cases hlt : j < vo.length
              ·have gv := z0j hlt
               have hfin : z59 ask vo j = false → allB (z59 ask vo) vo.length = false := fun h => z2H hlt h
               have hgo : z59 ask vo j = true → ∀ i, i < j + 1 → z59 ask vo i = true := fun h i hi => by
                rcases Nat.lt_or_ge i j with h1 | h1
                ·exact hj2 i h1
                ·rw [show i = j by omega]; exact h
               have hV : z59 ask vo j = (decide (pAt vo j = []) || (ask && decide (((pAt vo j).length : Int) = 16))) := rfl
               clear hj2
               generalize z59 ask vo j = B at hfin hgo hV
               generalize pAt vo j = v at gv hV
               by_cases w1 : v = []
               ·have hB : B = true := by rw [hV, decide_eq_true w1]; rfl
                repeat ((try conv => whnf); first | (refine Exists.intro vo.length (And.intro hvl ?_)) | (refine i_at gv ?_) | (refine z0A w1 ?_) | (refine And.intro (by kernel_rfl) ?_) | (refine stpQ ?_))
                refine ⟨j + 1, ⟨by omega, hgo hB⟩, by omega, ?_⟩
                (refine z02 (by rfl) ?_ ?_) <;> repeat' (first | (exact eqA) | (refine shE ?_) | (refine And.intro ?_ ?_))
               ·by_cases w2 : (v.length : Int) = 16
                ·cases ask with
                 | true =>
                   have hB : B = true := by rw [hV, decide_eq_true w2]; simp
                   repeat ((try conv => whnf); first | (refine Exists.intro vo.length (And.intro hvl ?_)) | (refine i_at gv ?_) | (refine z1w w1 ?_) | (refine z0A w2 ?_) | (refine And.intro (by kernel_rfl) ?_) | (refine stpQ ?_))
                   refine ⟨j + 1, ⟨by omega, hgo hB⟩, by omega, ?_⟩
                   (refine z02 (by rfl) ?_ ?_) <;> repeat' (first | (exact eqA) | (refine shE ?_) | (refine And.intro ?_ ?_))
                 | false =>
                   have hB : B = false := by rw [hV, decide_eq_false w1]; rfl
                   repeat ((try conv => whnf); first | (refine Exists.intro vo.length (And.intro hvl ?_)) | (refine i_at gv ?_) | (refine z1w w1 ?_) | (refine z0A w2 ?_) | (refine And.intro (by kernel_rfl) ?_) | (refine stpQ ?_))
                   refine hQ2 _ _ ?_
                   (try conv => whnf)
                   rw [hfin hB]
                   (refine z00 (by rfl) ?_ ?_ (by rfl)) <;> repeat' (first | (exact eqA) | (refine shE ?_) | (refine And.intro ?_ ?_))
                ·have hB : B = false := by rw [hV, decide_eq_false w1, decide_eq_false w2]; simp
                 repeat ((try conv => whnf); first | (refine Exists.intro vo.length (And.intro hvl ?_)) | (refine i_at gv ?_) | (refine z1w w1 ?_) | (refine z1w w2 ?_) | (refine And.intro (by kernel_rfl) ?_) | (refine stpQ ?_))
                 refine hQ2 _ _ ?_
                 (try conv => whnf)
                 rw [hfin hB]
                 (refine z00 (by rfl) ?_ ?_ (by rfl)) <;> repeat' (first | (exact eqA) | (refine shE ?_) | (refine And.intro ?_ ?_))
              ·have hje : j = vo.length := by omega
               subst hje
               have hA := z1X hj2
               repeat ((try conv => whnf); first | (refine Exists.intro vo.length (And.intro hvl ?_)) | (refine stpQ ?_))
               refine hQ2 _ _ ?_
               repeat ((try conv => whnf); first | (refine stpQ ?_))
               rw [hA]
               (refine z00 (by rfl) ?_ ?_ (by rfl)) <;> repeat' (first | (exact eqA) | (refine shE ?_) | (refine And.intro ?_ ?_))
          ·rw [decide_eq_false q2, Bool.false_and]
           have q1' : (vo.length : Int) = (pk : Int) := by omega
           have q2' : ¬ (D.length : Int) = (pk : Int) := by omega
           refine z01 z03 1 rfl Tryz.func13 rfl rfl rfl ?_
           repeat ((try conv => whnf); first | (refine ccA ([]) (c0) ?_) | (refine ccA ([]) (c1) ?_) | (refine ccA ([]) (c2) ?_) | (refine ccA ([]) (c3) ?_) | (refine ccA ([]) (c4) ?_) | (refine Exists.intro vo.length (And.intro hvl ?_)) | (refine Exists.intro tr.length (And.intro htl ?_)) | (refine Exists.intro ntr.length (And.intro hnt ?_)) | (refine Exists.intro pk (And.intro hev ?_)) | (refine Exists.intro pk (And.intro hed ?_)) | (refine z0A q5' ?_) | (refine z0A q3' ?_) | (refine z0A q1' ?_) | (refine z1w q2' ?_) | (refine And.intro (by kernel_rfl) ?_) | (refine stpQ ?_))
           (refine z00 (by rfl) ?_ ?_ (by rfl)) <;> (repeat' (first | (exact eqA) | (refine shE ?_) | (refine And.intro ?_ ?_)))
         ·rw [decide_eq_false q1, Bool.false_and]
          have q1' : ¬ (vo.length : Int) = (pk : Int) := by omega
          refine z01 z03 1 rfl Tryz.func13 rfl rfl rfl ?_
          repeat ((try conv => whnf); first | (refine ccA ([]) (c0) ?_) | (refine ccA ([]) (c1) ?_) | (refine ccA ([]) (c2) ?_) | (refine ccA ([]) (c3) ?_) | (refine ccA ([]) (c4) ?_) | (refine Exists.intro vo.length (And.intro hvl ?_)) | (refine Exists.intro tr.length (And.intro htl ?_)) | (refine Exists.intro ntr.length (And.intro hnt ?_)) | (refine Exists.intro pk (And.intro hev ?_)) | (refine Exists.intro pk (And.intro hed ?_)) | (refine z0A q5' ?_) | (refine z0A q3' ?_) | (refine z1w q1' ?_) | (refine And.intro (by kernel_rfl) ?_) | (refine stpQ ?_))
          (refine z00 (by rfl) ?_ ?_ (by rfl)) <;> (repeat' (first | (exact eqA) | (refine shE ?_) | (refine And.intro ?_ ?_)))
        ·have q3' : ¬ (nty : Int) = ty := fun e => q3 e.symm
         have q5' : (ntr.length : Int) = (tr.length : Int) := by omega
         rw [decide_eq_false q3]
         simp only [Bool.false_and, Bool.and_false]
         refine z01 z03 1 rfl Tryz.func13 rfl rfl rfl ?_
         repeat ((try conv => whnf); first | (refine ccA ([]) (c0) ?_) | (refine ccA ([]) (c1) ?_) | (refine ccA ([]) (c2) ?_) | (refine ccA ([]) (c3) ?_) | (refine ccA ([]) (c4) ?_) | (refine Exists.intro vo.length (And.intro hvl ?_)) | (refine Exists.intro tr.length (And.intro htl ?_)) | (refine Exists.intro ntr.length (And.intro hnt ?_)) | (refine Exists.intro pk (And.intro hev ?_)) | (refine Exists.intro pk (And.intro hed ?_)) | (refine z0A q5' ?_) | (refine z1w q3' ?_) | (refine And.intro (by kernel_rfl) ?_) | (refine stpQ ?_))
         (refine z00 (by rfl) ?_ ?_ (by rfl)) <;> (repeat' (first | (exact eqA) | (refine shE ?_) | (refine And.intro ?_ ?_)))
       ·have q5' : ¬ (ntr.length : Int) = (tr.length : Int) := by omega
        have hne : ¬ tr = tkI ntr := fun e => q5 (by rw [e, z58])
        rw [decide_eq_false hne]
        simp only [Bool.false_and, Bool.and_false]
        refine z01 z03 1 rfl Tryz.func13 rfl rfl rfl ?_
        repeat ((try conv => whnf); first | (refine ccA ([]) (c0) ?_) | (refine ccA ([]) (c1) ?_) | (refine ccA ([]) (c2) ?_) | (refine ccA ([]) (c3) ?_) | (refine ccA ([]) (c4) ?_) | (refine Exists.intro vo.length (And.intro hvl ?_)) | (refine Exists.intro tr.length (And.intro htl ?_)) | (refine Exists.intro ntr.length (And.intro hnt ?_)) | (refine Exists.intro pk (And.intro hev ?_)) | (refine Exists.intro pk (And.intro hed ?_)) | (refine z1w q5' ?_) | (refine And.intro (by kernel_rfl) ?_) | (refine stpQ ?_))
        (refine z00 (by rfl) ?_ ?_ (by rfl)) <;> (repeat' (first | (exact eqA) | (refine shE ?_) | (refine And.intro ?_ ?_)))
  ·rw [z21 hK] at c1 ⊢
   rw [Bool.false_and]
   refine z01 z03 1 rfl Tryz.func13 rfl rfl rfl ?_
   repeat ((try conv => whnf); first | (refine ccA ([]) (c0) ?_) | (refine ccA ([]) (c1) ?_) | (refine And.intro (by kernel_rfl) ?_) | (refine stpQ ?_))
   (refine z00 (by rfl) ?_ ?_ (by rfl)) <;> (repeat' (first | (exact eqA) | (refine shE ?_) | (refine And.intro ?_ ?_)))
 ·rw [z21 hho] at c0 ⊢
  rw [Bool.false_and]
  refine z01 z03 1 rfl Tryz.func13 rfl rfl rfl ?_
  repeat ((try conv => whnf); first | (refine ccA ([]) (c0) ?_) | (refine And.intro (by kernel_rfl) ?_) | (refine stpQ ?_))
  (refine z00 (by rfl) ?_ ?_ (by rfl)) <;> (repeat' (first | (exact eqA) | (refine shE ?_) | (refine And.intro ?_ ?_)))
end
theorem za4 (e : List T) (q : Fits 1048576 z1g e) : ∃ b, CT Tryz.prog 13 [] [.agg e] (.bool b) [] ∧ CT Tryz.prog 15 [] [.agg e] (.bool b) [] := by
 obtain ⟨n0, n1, b2, z3, z4, z5, z6, n7, b8, z9, z10, rfl, -, -, -, q3, q4, q5, q6, -, -, q9, q10, -⟩ := z2O q
 obtain ⟨fs, rfl, h3⟩ := zi9 q3.2
 obtain ⟨po, rfl, -⟩ := z36 q4.2
 obtain ⟨se, rfl, h5⟩ := zie q5.2
 obtain ⟨tr, rfl⟩ := zia q6.2
 obtain ⟨vo, rfl, -⟩ := z36 q9.2
 have a3 := q3.1
 have a4 := q4.1
 have a5 := q5.1
 have a6 := q6.1
 have a9 := q9.1
 rw [z4F] at a3
 rw [z05] at a4 a9
 rw [z4o] at a5
 rw [z5M] at a6
 have f := zib (by omega) a3 h3
 exact ⟨_, z9c n0 n1 b2 fs po se tr n7 b8 vo z10 f a4 a5 h5 a6 a9 q10.1, zbM n0 n1 b2 fs po se tr n7 b8 vo z10 f a4 a5 h5 a6 a9 q10.1⟩
end Go.Proofs.YthcfalipgnpelaaGreatDoor
