/- Functions by content: the law of ServerNew. -/
import Derived.Test.YtbcgmjdfnjmhoaaGreatDoorSnd
import Derived.Test.YtbcgmjdfnjmhoaaGreatDoorTod
import Derived.Test.YtbcgmjdfnjmhoaaGreatDoorMk
import Derived.Test.YtbcgmjdfnjmhoaaGreatDoorSzd
import Derived.Test.YtbcgmjdfnjmhoaaGreatDoorExS
import Derived.Test.YtbcgmjdfnjmhoaaGreatDoorXe
namespace Go.Proofs.YtbcgmjdfnjmhoaaGreatDoor
set_option linter.unusedVariables false
set_option linter.unusedSimpArgs false
set_option linter.unusedSectionVars false
open Go.RowKit Pl
theorem zeH (l : List Fl) : WfFl (flE l) := fun e he => by
 simp only [flE, List.mem_map] at he
 obtain ⟨x, _, rfl⟩ := he
 exact ⟨_, _, _, rfl⟩
theorem wf_lv (l : List Lf) : WfLf (lvE l) := fun e he => by
 simp only [lvE, List.mem_map] at he
 obtain ⟨x, _, rfl⟩ := he
 exact ⟨_, _, rfl⟩
theorem wf_nt (l : List Nat) : WfIt (ntE l) := fun e he => by
 simp only [ntE, List.mem_map] at he
 obtain ⟨x, _, rfl⟩ := he
 exact ⟨_, rfl⟩
theorem zfg (l : List Ch) : WfCh (chE l) := fun e he => by
 simp only [chE, List.mem_map] at he
 obtain ⟨x, _, rfl⟩ := he
 exact ⟨_, _, _, rfl⟩
theorem z8p (l : List Lf) : (lvE l).length = l.length := by simp [lvE]
theorem wf_vw (l : List (List Lf)) (h : ∀ v ∈ l, z04 v = true) : zc8 (vwD l) := fun e he => by
 simp only [vwD, List.mem_map] at he
 obtain ⟨x, hx, rfl⟩ := he
 have := (z1D (h x hx)).1
 exact ⟨_, rfl, wf_lv x, by rw [z8p]; omega⟩
theorem z3A (n : Nat) : ∀ (es : List (List T)), cnG (fun _ => n) es = n * es.length
 | [] => rfl
 | e :: es => by rw [cnG, z3A n es, List.length_cons, Nat.mul_add]; omega
theorem cn_fl (l : List (List T)) : cnG szFl l = 3 * l.length := z3A 3 l
theorem zfJ (l : List (List T)) : cnG szIt l = 1 * l.length := z3A 1 l
theorem zfK (l : List (List T)) : cnG szCh l = 3 * l.length := z3A 3 l
theorem cn_lf (l : List (List T)) : cnG szLf l = 2 * l.length := z3A 2 l
theorem cn_vw : ∀ (l : List (List Lf)), (∀ v ∈ l, z04 v = true) → cnG z0j (vwD l) ≤ 48 * l.length
 | [], _ => Nat.le_refl _
 | v :: l, h => by
   have ih := cn_vw l fun v hv => h v (by simp [hv])
   have h1 := (z1D (h v (by simp))).1
   show z0j [.own 2 (lvE v)] + cnG z0j (vwD l) ≤ _
   have h2 : z0j [.own 2 (lvE v)] = 0 + cnG szLf (lvE v) := rfl
   rw [h2, cn_lf, z8p, List.length_cons]
   omega
theorem zeI (a K : Int) (ha : -9223372036854775808 ≤ a ∧ a ≤ 9223372036854775807) (hK : -9223372036854775808 ≤ K ∧ K ≤ 9223372036854775807) (fs : List Fl) (hf : (flE fs).length ≤ 1048576 ∧ ∀ e ∈ flE fs, Fits 1048576 z0s e) (s : Sv) {n : Nat} (g : SvOk n s) (hn : n ≤ 30000) : Fits 1048576 z2y (svE a K true fs (vwE s.vs) s) := by
 have g1 := g.ep
 have g2 := g.vl
 have g3 := g.tl
 have g4 := g.al
 have g5 := g.rk
 have g6 := g.r4
 have g7 := g.rt
 refine zbq ha hK trivial hf (by omega) ⟨by rw [zdH]; omega, fun e he => ?_⟩ ⟨by rw [z5O]; omega, fun e he => ?_⟩ ⟨by rw [z2M]; omega, fun e he => ?_⟩ (by omega) (by omega) (by omega)
 ·simp only [vwE, List.mem_map] at he
  obtain ⟨v, hv, rfl⟩ := he
  have h1 := z1D (g.vo v hv)
  refine ⟨_, rfl, by rw [z8p]; omega, fun e he => ?_⟩
  simp only [lvE, List.mem_map] at he
  obtain ⟨x, hx, rfl⟩ := he
  have h2 := h1.2.1 x hx
  have h3 := z1h h2.1
  have h4 := z1w h2.2
  exact zej (by omega) (by omega)
 ·simp only [ntE, List.mem_map] at he
  obtain ⟨x, hx, rfl⟩ := he
  have := g.tb x hx
  exact ⟨_, rfl, by omega, by omega⟩
 ·simp only [chE, List.mem_map] at he
  obtain ⟨u, hu, rfl⟩ := he
  have h1 := g.ch u hu
  unfold z0f at h1
  simp only [Bool.and_eq_true, Bool.or_eq_true, decide_eq_true_eq] at h1
  have h2 := z1h h1.1.2
  have h3 : u.2.2.length ≤ 12 := by
   rcases h1.2 with h | h
   ·rw [List.isEmpty_iff.1 h]; simp
   ·exact z1w h
  exact zbo (by omega) (by omega) (by omega)
theorem z6t (a K : Int) (fs : List Fl) (hf : z6o fs) : CT Tryz.prog 10 [] [.int .i64 a, .int .i64 K, .agg [.sl 3 (flE fs)]] (.agg (svE a K true fs (vwE (svOf a K (z0p fs z0e)).vs) (svOf a K (z0p fs z0e)))) [] := by
 have := z7s a K fs hf
 rwa [zc0] at this
theorem z7z (a K : Int) (fs : List Fl) (hf : z6o fs) (F : List (List T)) (hF : F = flE fs) : CT Tryz.prog 12 [] [.int .i64 a, .int .i64 K, .agg [.sl 3 F]] (.agg [.int .i64 a, .int .i64 K, .bool true, .ref 1, .int .i64 ((svOf a K (z0p fs z0e)).ep : Int), .ref 2, .ref 3, .ref 4, .int .i64 ((svOf a K (z0p fs z0e)).re : Int), .int .i64 ((svOf a K (z0p fs z0e)).rt : Int), .int .i64 ((svOf a K (z0p fs z0e)).rk : Int)]) [.deep 3 (flE fs) [], .deep 1 (vwD (svOf a K (z0p fs z0e)).vs) [], .deep 1 (ntE (svOf a K (z0p fs z0e)).tk) [], .deep 3 (chE (svOf a K (z0p fs z0e)).al) []] := by
 subst hF
 exact z7u a K fs hf
theorem z8q (a K : Int) (fs : List Fl) (s : Sv) (h : Fits 1048576 z2y (svE a K true fs (vwE s.vs) s)) (F V W C : List (List T)) (hF : F = flE fs) (hV : V = vwE s.vs) (hW : W = ntE s.tk) (hC : C = chE s.al) : CT Tryz.prog 13 [] [.agg [.int .i64 a, .int .i64 K, .bool true, .sl 3 F, .int .i64 (s.ep : Int), .sl 1 V, .sl 1 W, .sl 3 C, .int .i64 (s.re : Int), .int .i64 (s.rt : Int), .int .i64 (s.rk : Int)], .agg (svE a K true fs (vwE s.vs) s)] (.bool true) [] := by
 subst hF hV hW hC
 exact zam _ h
theorem zce (z : List (List T)) (h : Fits 1048576 z1b [.sl 3 z]) (F G : List (List T)) (hF : F = z) (hG : G = z) : CT Tryz.prog 14 [] [.agg [.sl 3 F], .agg [.sl 3 G]] (.bool true) [] := by
 subst hF hG
 exact z9w _ h
section
attribute [local irreducible] z0F z0I z0T AnsP LeP W CvE
set_option maxRecDepth 100000 in
set_option maxHeartbeats 8000000 in
theorem z5k (a K : Int) (ha : -9223372036854775808 ≤ a ∧ a ≤ 9223372036854775807) (hK : -9223372036854775808 ≤ K ∧ K ≤ 9223372036854775807) (e0 : List T) (f0 : Fits maxLen z1b e0) : CT Tryz.prog 3 [] [.int .i64 a, .int .i64 K, .agg e0] (.bool true) [] := by
 have c0 := zdh e0 1048576 f0 (by omega)
 have b0 := z43 z1b e0 1048576 (by omega)
 have g0 := z4j (N := 1048576) z1b e0 1048576 (by omega) f0 (by omega)
 generalize szG z1b e0 1048576 = r0 at c0 b0 g0
 obtain ⟨z, rfl, -⟩ := z26 f0
 by_cases h0 : r0 < 0
 ·clear g0
  refine z01 z03 1 rfl Tryz.func3 rfl rfl rfl ?_
  conv => arg 6; whnf
  repeat ((try conv => whnf); first | (with_reducible (refine z0n (fun Qs hN hE hR => ?_))) | (with_reducible (refine z0l ?_)) | (with_reducible (refine z05 (fun Qb kN kE kX kR => ?_))) | (with_reducible (refine z08 ?_)) | (with_reducible (refine z09 ?_)) | (with_reducible (refine z0m ?_)) | (with_reducible (refine z0a ?_)) | (with_reducible (refine z0b ?_)) | (with_reducible (show W _ _ _ (.cond _ _ _) _ _); refine z07 rfl ?_) | (with_reducible (refine hN _ ?_); (try clear hN hE hR Qs)) | (with_reducible (refine hE _ _ ?_); (try clear hN hE hR Qs)) | (with_reducible (refine hR _ ?_); (try clear hN hE hR Qs)) | (with_reducible (refine kN _ ?_); (try clear kN kE kX kR Qb)) | (with_reducible (refine kE _ ?_); (try clear kN kE kX kR Qb)) | (with_reducible (refine kX _ _ rfl ?_); (try clear kN kE kX kR Qb)) | (with_reducible (refine kR _ ?_); (try clear kN kE kX kR Qb)) | (refine ccA ([]) (c0) ?_) | (refine z0t h0 ?_) | (refine stpQ ?_))
  (refine z00 (by rfl) ?_ ?_ (by rfl)) <;> (repeat' (first | (exact eqA) | (refine And.intro ?_ ?_) | ((fail_if_success (with_reducible (show _ = _))); (show _ = _))))
 have q0 := g0 (by omega)
 clear g0 f0
 obtain ⟨z', hz', q3, -⟩ := z26 q0
 obtain rfl : z = z' := by injection hz' with hz' _; injection hz'
 clear hz'
 obtain ⟨fs, rfl, h3⟩ := zfC q3.2
 have a3 := q3.1
 rw [z42] at a3
 have hf := zfD (by omega) a3 h3
 have t0 := zdd [.sl 3 (flE fs)] q0
 have t1 := zc7 (flE fs) q3
 have s1 := z6t a K fs hf
 have s2 := z7z a K fs hf (ucE (flE fs)) (zdb fs)
 have hfacts := z1z fs z0e
 have gS : SvOk (z0p fs z0e).length (svOf a K (z0p fs z0e)) := z87 a K _
 have hlen : (z0p fs z0e).length ≤ 30000 := by omega
 generalize svOf a K (z0p fs z0e) = s at s1 s2 gS
 have fe := zeI a K ha hK fs q3 s gS hlen
 have u1 := z8q a K fs s fe (ucE (flE fs)) (ucE (vwD s.vs)) (ucE (ntE s.tk)) (ucE (chE s.al)) (zdb fs) (zeU s.vs) (sl_nt s.tk) (zf2 s.al)
 have u2 := zce (flE fs) q0 (ucE (flE fs)) (ucE (flE fs)) (zdb fs) (zdb fs)
 have n1 := z42 fs
 have n2 := cn_fl (flE fs)
 have n3 := cn_vw s.vs gS.vo
 have n4 := zfJ (ntE s.tk)
 have n5 := zfK (chE s.al)
 have n6 := z5O s.tk
 have n7 := z2M s.al
 have n8 := zc3 s.vs
 have g1 := gS.ep
 have g2 := gS.vl
 have g3 := gS.tl
 have g4 := gS.al
 have d1 := z5P (flE fs) (zeH fs) (by omega) 1 (by decide) (by omega)
 have d2 := z7x a K true (s.ep : Int) (s.re : Int) (s.rt : Int) (s.rk : Int) (flE fs) (zeH fs) (by omega) (vwD s.vs) (wf_vw s.vs gS.vo) (by omega) (ntE s.tk) (wf_nt s.tk) (by omega) (chE s.al) (zfg s.al) (by omega) 1 (by decide) (by omega)
 have d3 := z7y a K true (s.ep : Int) (s.re : Int) (s.rt : Int) (s.rk : Int) (flE fs) (zeH fs) (by omega) (vwD s.vs) (wf_vw s.vs gS.vo) (by omega) (ntE s.tk) (wf_nt s.tk) (by omega) (chE s.al) (zfg s.al) (by omega) 1 (by decide) (by omega)
 have y1 : ¬ ((1 + cnG szFl (flE fs) : Nat) : Int) < 0 := by omega
 generalize ((1 + cnG szFl (flE fs) : Nat) : Int) = m1 at d1 y1
 have y2 : ¬ ((1 + cnG szFl (flE fs) + cnG z0j (vwD s.vs) + cnG szIt (ntE s.tk) + cnG szCh (chE s.al) : Nat) : Int) < 0 := by omega
 generalize ((1 + cnG szFl (flE fs) + cnG z0j (vwD s.vs) + cnG szIt (ntE s.tk) + cnG szCh (chE s.al) : Nat) : Int) = m2 at d2 d3 y2
 have y3 : m2 = m2 := rfl
 generalize mkG elFl szFl (1) (flE fs) = p1 at *
 generalize mkG z1p z0j _ (vwD s.vs) = p2 at *
 generalize mkG elIt szIt _ (ntE s.tk) = p3 at *
 generalize mkG elCh szCh _ (chE s.al) = p4 at *
 have y0 : ¬ r0 < 0 := h0
 clear n1 n2 n3 n4 n5 n6 n7 n8 g1 g2 g3 g4 hlen hfacts gS fe hf h3 a3 q3 q0 b0 h0 ha hK
 unfold svE at *
 refine z01 z03 1 rfl Tryz.func3 rfl rfl rfl ?_
 conv => arg 6; whnf
 repeat ((try conv => whnf); first | (with_reducible (refine z0n (fun Qs hN hE hR => ?_))) | (with_reducible (refine z0l ?_)) | (with_reducible (refine z05 (fun Qb kN kE kX kR => ?_))) | (with_reducible (refine z08 ?_)) | (with_reducible (refine z09 ?_)) | (with_reducible (refine z0m ?_)) | (with_reducible (refine z0a ?_)) | (with_reducible (refine z0b ?_)) | (with_reducible (show W _ _ _ (.cond _ _ _) _ _); refine z07 rfl ?_) | (with_reducible (refine hN _ ?_); (try clear hN hE hR Qs)) | (with_reducible (refine hE _ _ ?_); (try clear hN hE hR Qs)) | (with_reducible (refine hR _ ?_); (try clear hN hE hR Qs)) | (with_reducible (refine kN _ ?_); (try clear kN kE kX kR Qb)) | (with_reducible (refine kE _ ?_); (try clear kN kE kX kR Qb)) | (with_reducible (refine kX _ _ rfl ?_); (try clear kN kE kX kR Qb)) | (with_reducible (refine kR _ ?_); (try clear kN kE kX kR Qb)) | (refine ccA ([]) (c0) ?_) | (refine z0i y0 ?_) | (refine stpQ ?_))
 iterate 1 ((try conv => whnf); first | (with_reducible (refine z0n (fun Qs hN hE hR => ?_))) | (with_reducible (refine z0l ?_)) | (with_reducible (refine z05 (fun Qb kN kE kX kR => ?_))) | (with_reducible (refine z08 ?_)) | (with_reducible (refine z09 ?_)) | (with_reducible (refine z0m ?_)) | (with_reducible (refine z0a ?_)) | (with_reducible (refine z0b ?_)) | (with_reducible (show W _ _ _ (.cond _ _ _) _ _); refine z07 rfl ?_) | (with_reducible (refine hN _ ?_); (try clear hN hE hR Qs)) | (with_reducible (refine hE _ _ ?_); (try clear hN hE hR Qs)) | (with_reducible (refine hR _ ?_); (try clear hN hE hR Qs)) | (with_reducible (refine kN _ ?_); (try clear kN kE kX kR Qb)) | (with_reducible (refine kE _ ?_); (try clear kN kE kX kR Qb)) | (with_reducible (refine kX _ _ rfl ?_); (try clear kN kE kX kR Qb)) | (with_reducible (refine kR _ ?_); (try clear kN kE kX kR Qb)) | (refine ccA ([]) (t0) ?_) | (refine stpQ ?_))
 repeat ((try conv => whnf); first | (with_reducible (refine z0n (fun Qs hN hE hR => ?_))) | (with_reducible (refine z0l ?_)) | (with_reducible (refine z05 (fun Qb kN kE kX kR => ?_))) | (with_reducible (refine z08 ?_)) | (with_reducible (refine z09 ?_)) | (with_reducible (refine z0m ?_)) | (with_reducible (refine z0a ?_)) | (with_reducible (refine z0b ?_)) | (with_reducible (show W _ _ _ (.cond _ _ _) _ _); refine z07 rfl ?_) | (with_reducible (refine hN _ ?_); (try clear hN hE hR Qs)) | (with_reducible (refine hE _ _ ?_); (try clear hN hE hR Qs)) | (with_reducible (refine hR _ ?_); (try clear hN hE hR Qs)) | (with_reducible (refine kN _ ?_); (try clear kN kE kX kR Qb)) | (with_reducible (refine kE _ ?_); (try clear kN kE kX kR Qb)) | (with_reducible (refine kX _ _ rfl ?_); (try clear kN kE kX kR Qb)) | (with_reducible (refine kR _ ?_); (try clear kN kE kX kR Qb)) | (refine ccA ([]) (s1) ?_) | (refine stpQ ?_))
 repeat ((try conv => whnf); first | (with_reducible (refine z0n (fun Qs hN hE hR => ?_))) | (with_reducible (refine z0l ?_)) | (with_reducible (refine z05 (fun Qb kN kE kX kR => ?_))) | (with_reducible (refine z08 ?_)) | (with_reducible (refine z09 ?_)) | (with_reducible (refine z0m ?_)) | (with_reducible (refine z0a ?_)) | (with_reducible (refine z0b ?_)) | (with_reducible (show W _ _ _ (.cond _ _ _) _ _); refine z07 rfl ?_) | (with_reducible (refine hN _ ?_); (try clear hN hE hR Qs)) | (with_reducible (refine hE _ _ ?_); (try clear hN hE hR Qs)) | (with_reducible (refine hR _ ?_); (try clear hN hE hR Qs)) | (with_reducible (refine kN _ ?_); (try clear kN kE kX kR Qb)) | (with_reducible (refine kE _ ?_); (try clear kN kE kX kR Qb)) | (with_reducible (refine kX _ _ rfl ?_); (try clear kN kE kX kR Qb)) | (with_reducible (refine kR _ ?_); (try clear kN kE kX kR Qb)) | (refine ccA ([]) (t1) ?_) | (refine ccA ([]) (s2) ?_) | (refine ccA ([]) (u1) ?_) | (refine ccA ([]) (u2) ?_) | (refine ccB ([_]) (d1) ?_) | (refine ccB ([_, _, _, _]) (d2) ?_) | (refine ccB ([_, _, _, _]) (d3) ?_) | (refine z0i y1 ?_) | (refine z0i y2 ?_) | (refine z1v y3 ?_) | (refine And.intro (by kernel_rfl) ?_) | (refine stpQ ?_))
 (refine z00 (by rfl) ?_ ?_ (by rfl)) <;> (repeat' (first | (exact eqA) | (refine And.intro ?_ ?_) | ((fail_if_success (with_reducible (show _ = _))); (show _ = _))))
end
end Go.Proofs.YtbcgmjdfnjmhoaaGreatDoor
