/- Functions by content: the law of CoordNew. -/
import Derived.Test.YtnhcfmmdaihneaaGreatDoorWfc
import Derived.Test.YtnhcfmmdaihneaaGreatDoorCx
import Derived.Test.YtnhcfmmdaihneaaGreatDoorCsx
import Derived.Test.YtnhcfmmdaihneaaGreatDoorTod
import Derived.Test.YtnhcfmmdaihneaaGreatDoorMk
import Derived.Test.YtnhcfmmdaihneaaGreatDoorSzd
import Derived.Test.YtnhcfmmdaihneaaGreatDoorExS
import Derived.Test.YtnhcfmmdaihneaaGreatDoorXe
namespace Go.Proofs.YtnhcfmmdaihneaaGreatDoor
set_option linter.unusedVariables false
set_option linter.unusedSimpArgs false
set_option linter.unusedSectionVars false
open Go.RowKit Pl
theorem z5T (a K : Int) (up : Bool) (ty : Int) (ak : Bool) (f p s t v d : List (List T)) (h : Fits 1048576 z0Q [.int .i64 a, .int .i64 K, .bool up, .sl 3 f, .sl 1 p, .sl 8 s, .sl 1 t, .int .i64 ty, .bool ak, .sl 1 v, .sl 1 d]) (F P S U V D F' P' S' U' V' D' : List (List T)) (hF : F = f) (hP : P = p) (hS : S = s) (hU : U = t) (hV : V = v) (hD : D = d) (hF' : F' = f) (hP' : P' = p) (hS' : S' = s) (hU' : U' = t) (hV' : V' = v) (hD' : D' = d) : CT Tryz.prog 17 [] [.agg [.int .i64 a, .int .i64 K, .bool up, .sl 3 F, .sl 1 P, .sl 8 S, .sl 1 U, .int .i64 ty, .bool ak, .sl 1 V, .sl 1 D], .agg [.int .i64 a, .int .i64 K, .bool up, .sl 3 F', .sl 1 P', .sl 8 S', .sl 1 U', .int .i64 ty, .bool ak, .sl 1 V', .sl 1 D']] (.bool true) [] := by
 subst hF hP hS hU hV hD hF' hP' hS' hU' hV' hD'
 exact zaW _ h
theorem zhZ (z : List (List T)) (h : Fits 1048576 z1s [.sl 3 z]) (F G : List (List T)) (hF : F = z) (hG : G = z) : CT Tryz.prog 18 [] [.agg [.sl 3 F], .agg [.sl 3 G]] (.bool true) [] := by
 subst hF hG
 exact z9r _ h
theorem z7G (a K : Int) (fs : List Fl) (hf : z2T fs) : ∃ n, n ≤ 4 ∧
 CT Tryz.prog 14 [] [.int .i64 a, .int .i64 K, .agg [.sl 3 (flE fs)]] (.agg (cvE a K fs (z1c (z1x a) 16) (cvA a (z0i fs z0g)) (emV n) (emD n))) [] ∧
 ∀ F, F = flE fs → CT Tryz.prog 16 [] [.int .i64 a, .int .i64 K, .agg [.sl 3 F]] (.agg [.int .i64 a, .int .i64 K, .bool true, .ref 1, .ref 2, .ref 3, .ref 4, .int .i64 ((cvA a (z0i fs z0g)).ty : Int), .bool false, .ref 5, .ref 6]) [.deep 3 (flE fs) [], .deep 1 (strE (z1c (z1x a) 16)) [], .deep 8 (sdE (cvA a (z0i fs z0g)).se) [], .deep 1 (ntE (cvA a (z0i fs z0g)).tr) [], .deep 1 (emV n) [], .deep 1 (emD n) []] := by
 by_cases hK : isHo K
 ·obtain ⟨k, rfl, hk, -⟩ := z3x hK
  refine ⟨2 ^ k, (zjf hk).2, zbc a k hk fs hf, fun F hF => ?_⟩
  subst hF
  exact zcC a k hk fs hf
 ·refine ⟨0, by decide, z9y a K hK fs hf, fun F hF => ?_⟩
  subst hF
  exact zbi a K hK fs hf
section
attribute [local irreducible] z0w z0x z0A AnsP LeP W CvE
set_option maxRecDepth 100000 in
set_option maxHeartbeats 8000000 in
theorem z9F (a K : Int) (ha : -9223372036854775808 ≤ a ∧ a ≤ 9223372036854775807) (hK : -9223372036854775808 ≤ K ∧ K ≤ 9223372036854775807) (e0 : List T) (f0 : Fits maxLen z1s e0) : CT Tryz.prog 4 [] [.int .i64 a, .int .i64 K, .agg e0] (.bool true) [] := by
 have c0 := ze6 e0 1048576 f0 (by omega)
 have b0 := z1R z1s e0 1048576 (by omega)
 have g0 := z5s (N := 1048576) z1s e0 1048576 (by omega) f0 (by omega)
 generalize szG z1s e0 1048576 = r0 at c0 b0 g0
 obtain ⟨z, rfl, -⟩ := z2J f0
 by_cases h0 : r0 < 0
 ·clear g0
  refine z01 z03 1 rfl Tryz.func4 rfl rfl rfl ?_
  conv => arg 6; whnf
  repeat ((try conv => whnf); first | (with_reducible first | refine z0c (fun Qs hN hE hR => ?_) | refine z0a ?_ | refine z04 (fun Qb kN kE kX kR => ?_) | refine z06 ?_ | refine z07 ?_ | refine z0b ?_ | refine z08 ?_ | refine z09 ?_ | (show W _ _ _ (.cond _ _ _) _ _; refine z05 rfl ?_) | (refine hN _ ?_; try clear hN hE hR Qs) | ((first | refine hE _ _ ?_ | refine hR _ ?_); try clear hN hE hR Qs) | ((first | refine kN _ ?_ | refine kE _ ?_ | refine kX _ _ rfl ?_ | refine kR _ ?_); try clear kN kE kX kR Qb)) | (refine ccA ([]) (c0) ?_) | (refine z0o h0 ?_) | (refine stpQ ?_))
  (refine z00 (by rfl) ?_ ?_ (by rfl)) <;> (repeat' (first | (exact eqA) | (refine shE ?_) | (refine And.intro ?_ ?_)))
 have q0 := g0 (by omega)
 clear g0 f0
 obtain ⟨z', hz', q3, -⟩ := z2J q0
 obtain rfl : z = z' := by injection hz' with hz' _; injection hz'
 clear hz'
 obtain ⟨fs, rfl, h3⟩ := zk2 q3.2
 have a3 := q3.1
 rw [z3c] at a3
 have hf := zk3 (by omega) a3 h3
 have t0 := ze3 [.sl 3 (flE fs)] q0
 have t1 := zbk (flE fs) q3
 obtain ⟨n, hn, s1, s2'⟩ := z7G a K fs hf
 have s2 := s2' (ucE (flE fs)) (zdV fs)
 have gS : z4b a (cvA a (z0i fs z0g)) := z8y a _
 have lP := z1D (z1x a) 16
 have wP : ∀ x ∈ z1c (z1x a) 16, x.length ≤ 1048576 := fun x hx => by have := z5K x hx; omega
 generalize z1c (z1x a) 16 = P at s1 s2 lP wP
 generalize cvA a (z0i fs z0g) = s at s1 s2 gS
 clear s2'
 have fe := zhm a K ha hK fs q3 P (by omega) wP s gS n hn
 obtain ⟨g1, g2, g3⟩ := zch gS
 obtain ⟨g4, g5⟩ := zhl gS
 have g6 : ∀ x ∈ s.se, x.2.op.length ≤ 8 ∧ x.2.sh.length ≤ 8 ∧ x.2.si.length ≤ 8 := fun x hx => zk0 (g4 x hx).2
 unfold cvE at s1 fe
 have u1 := z5T a K true (s.ty : Int) false _ _ _ _ _ _ fe (ucE (flE fs)) (ucE (strE P)) (ucE (sdE s.se)) (ucE (ntE s.tr)) (ucE (emV n)) (ucE (emD n)) (flE fs) (strE P) (slE s.se) (ntE s.tr) (emV n) (emD n) (zdV fs) (zca P) (zl6 s.se) (slc_nt s.tr) (zjY n) (zjZ n) rfl rfl rfl rfl rfl rfl
 have u2 := zhZ (flE fs) q0 (ucE (flE fs)) (ucE (flE fs)) (zdV fs) (zdV fs)
 have n1 := z3c fs
 have n2 := zjW (flE fs)
 have n3 := z3E (strE P)
 have n4 := zjX (N := 8) s.se g6
 have n5 := zhj (ntE s.tr)
 have n6 := z3E (emV n)
 have n7 := zhk (emD n)
 have m1' := z0m P
 have m2' := zhd s.se
 have m3' : (ntE s.tr).length = s.tr.length := by simp [ntE]
 have m4' : (emV n).length = n := by simp [emV]
 have m5' : (emD n).length = n := by simp [emD]
 have d1 := z8x (flE fs) (zhf fs) (by omega) 1 (by decide) (by omega)
 have d2 := z3w a K true (s.ty : Int) false (flE fs) (zhf fs) (by omega) (strE P) (z3D P) (by omega) (sdE s.se) (zjV s.se (N := 8) (by omega) g6) (by omega) (ntE s.tr) (zjU s.tr) (by omega) (emV n) (zhg n) (by omega) (emD n) (zhh n) (by omega) 1 (by decide) (by omega)
 have d3 := z4F a K true (s.ty : Int) false (flE fs) (zhf fs) (by omega) (strE P) (z3D P) (by omega) (sdE s.se) (zjV s.se (N := 8) (by omega) g6) (by omega) (ntE s.tr) (zjU s.tr) (by omega) (emV n) (zhg n) (by omega) (emD n) (zhh n) (by omega) 1 (by decide) (by omega)
 have y1 : ¬ ((1 + cnG szFl (flE fs) : Nat) : Int) < 0 := by omega
 generalize ((1 + cnG szFl (flE fs) : Nat) : Int) = m1 at d1 y1
 generalize mkG elFl szFl (1) (flE fs) = r1 at d1
 have y2 : ¬ ((1 + cnG szFl (flE fs) + cnG szSt (strE P) + cnG szSl (sdE s.se) + cnG szIt (ntE s.tr) + cnG szSt (emV n) + cnG szBo (emD n) : Nat) : Int) < 0 := by omega
 generalize ((1 + cnG szFl (flE fs) + cnG szSt (strE P) + cnG szSl (sdE s.se) + cnG szIt (ntE s.tr) + cnG szSt (emV n) + cnG szBo (emD n) : Nat) : Int) = m2 at d2 d3 y2
 have y3 : m2 = m2 := rfl
 generalize mkG elFl szFl (1) (flE fs) = p1 at d2 d3
 generalize mkG elSt szSt _ (strE P) = p2 at d2 d3
 generalize mkG elSl szSl _ (sdE s.se) = p3 at d2 d3
 generalize mkG elIt szIt _ (ntE s.tr) = p4 at d2 d3
 generalize mkG elSt szSt _ (emV n) = p5 at d2 d3
 generalize mkG elBo szBo _ (emD n) = p6 at d2 d3
 have y0 : ¬ r0 < 0 := h0
 clear n1 n2 n3 n4 n5 n6 n7 m1' m2' m3' m4' m5' g1 g2 g3 g4 g5 g6 gS fe hf h3 a3 q3 q0 b0 h0 ha hK lP wP hn
 refine z01 z03 1 rfl Tryz.func4 rfl rfl rfl ?_
 conv => arg 6; whnf
 repeat ((try conv => whnf); first | (with_reducible first | refine z0c (fun Qs hN hE hR => ?_) | refine z0a ?_ | refine z04 (fun Qb kN kE kX kR => ?_) | refine z06 ?_ | refine z07 ?_ | refine z0b ?_ | refine z08 ?_ | refine z09 ?_ | (show W _ _ _ (.cond _ _ _) _ _; refine z05 rfl ?_) | (refine hN _ ?_; try clear hN hE hR Qs) | ((first | refine hE _ _ ?_ | refine hR _ ?_); try clear hN hE hR Qs) | ((first | refine kN _ ?_ | refine kE _ ?_ | refine kX _ _ rfl ?_ | refine kR _ ?_); try clear kN kE kX kR Qb)) | (refine ccA ([]) (c0) ?_) | (refine z0j y0 ?_) | (refine stpQ ?_))
 iterate 1 ((try conv => whnf); first | (with_reducible first | refine z0c (fun Qs hN hE hR => ?_) | refine z0a ?_ | refine z04 (fun Qb kN kE kX kR => ?_) | refine z06 ?_ | refine z07 ?_ | refine z0b ?_ | refine z08 ?_ | refine z09 ?_ | (show W _ _ _ (.cond _ _ _) _ _; refine z05 rfl ?_) | (refine hN _ ?_; try clear hN hE hR Qs) | ((first | refine hE _ _ ?_ | refine hR _ ?_); try clear hN hE hR Qs) | ((first | refine kN _ ?_ | refine kE _ ?_ | refine kX _ _ rfl ?_ | refine kR _ ?_); try clear kN kE kX kR Qb)) | (refine ccA ([]) (t0) ?_) | (refine stpQ ?_))
 repeat ((try conv => whnf); first | (with_reducible first | refine z0c (fun Qs hN hE hR => ?_) | refine z0a ?_ | refine z04 (fun Qb kN kE kX kR => ?_) | refine z06 ?_ | refine z07 ?_ | refine z0b ?_ | refine z08 ?_ | refine z09 ?_ | (show W _ _ _ (.cond _ _ _) _ _; refine z05 rfl ?_) | (refine hN _ ?_; try clear hN hE hR Qs) | ((first | refine hE _ _ ?_ | refine hR _ ?_); try clear hN hE hR Qs) | ((first | refine kN _ ?_ | refine kE _ ?_ | refine kX _ _ rfl ?_ | refine kR _ ?_); try clear kN kE kX kR Qb)) | (refine ccA ([]) (s1) ?_) | (refine stpQ ?_))
 repeat ((try conv => whnf); first | (with_reducible first | refine z0c (fun Qs hN hE hR => ?_) | refine z0a ?_ | refine z04 (fun Qb kN kE kX kR => ?_) | refine z06 ?_ | refine z07 ?_ | refine z0b ?_ | refine z08 ?_ | refine z09 ?_ | (show W _ _ _ (.cond _ _ _) _ _; refine z05 rfl ?_) | (refine hN _ ?_; try clear hN hE hR Qs) | ((first | refine hE _ _ ?_ | refine hR _ ?_); try clear hN hE hR Qs) | ((first | refine kN _ ?_ | refine kE _ ?_ | refine kX _ _ rfl ?_ | refine kR _ ?_); try clear kN kE kX kR Qb)) | (refine ccA ([]) (t1) ?_) | (refine ccA ([]) (s2) ?_) | (refine ccA ([]) (u1) ?_) | (refine ccA ([]) (u2) ?_) | (refine ccB ([_]) (d1) ?_) | (refine ccB ([_, _, _, _, _, _]) (d2) ?_) | (refine ccB ([_, _, _, _, _, _]) (d3) ?_) | (refine z0j y1 ?_) | (refine z0j y2 ?_) | (refine z0S y3 ?_) | (refine And.intro (by kernel_rfl) ?_) | (refine stpQ ?_))
 (refine z00 (by rfl) ?_ ?_ (by rfl)) <;> (repeat' (first | (exact eqA) | (refine shE ?_) | (refine And.intro ?_ ?_)))
end
end Go.Proofs.YtnhcfmmdaihneaaGreatDoor
