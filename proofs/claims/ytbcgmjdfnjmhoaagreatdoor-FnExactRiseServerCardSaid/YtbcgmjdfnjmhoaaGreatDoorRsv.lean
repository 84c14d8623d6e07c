/- Functions by content: the law of RiseServer, put together. -/
import Derived.Test.YtbcgmjdfnjmhoaaGreatDoorRsr
namespace Go.Proofs.YtbcgmjdfnjmhoaaGreatDoor
set_option maxRecDepth 100000
set_option maxHeartbeats 8000000
set_option linter.unusedVariables false
set_option linter.unusedSimpArgs false
set_option linter.unusedSectionVars false
open Go.RowKit Pl
theorem zfM (v : List Lf) : vwE [v] = [[.sl 2 (lvE v)]] := rfl
theorem is_nt (l : List Nat) : ntE l = isE (l.map fun (n : Nat) => (n : Int)) := by simp [ntE, isE]
theorem zeJ (a K : Int) (up : Bool) (ep re rt rk : Int) (f v t c : List (List T)) (h : Fits 1048576 z2y [.int .i64 a, .int .i64 K, .bool up, .sl 3 f, .int .i64 ep, .sl 1 v, .sl 1 t, .sl 3 c, .int .i64 re, .int .i64 rt, .int .i64 rk]) (F V W C F' V' W' C' : List (List T)) (hF : F = f) (hV : V = v) (hW : W = t) (hC : C = c) (hF' : F' = f) (hV' : V' = v) (hW' : W' = t) (hC' : C' = c) : CT Tryz.prog 13 [] [.agg [.int .i64 a, .int .i64 K, .bool up, .sl 3 F, .int .i64 ep, .sl 1 V, .sl 1 W, .sl 3 C, .int .i64 re, .int .i64 rt, .int .i64 rk], .agg [.int .i64 a, .int .i64 K, .bool up, .sl 3 F', .int .i64 ep, .sl 1 V', .sl 1 W', .sl 3 C', .int .i64 re, .int .i64 rt, .int .i64 rk]] (.bool true) [] := by
 subst hF hV hW hC hF' hV' hW' hC'
 exact zam _ h
section
attribute [local irreducible] z0F z0I z0T AnsP LeP W CvE
theorem zfy (a K : Int) (up : Bool) (ep re rt rk : Int) (fs : List Fl) (vs : List (List Lf)) (tk : List Int) (al : List Ch) (hf : fs.length ≤ 1048576) (h1 : vs.length ≤ 1048576) (h4 : ∀ v ∈ vs, v.length ≤ 1048576) (h2 : tk.length ≤ 1048576) (h3 : al.length ≤ 1048576) :
 CT Tryz.prog 79 [] [.agg [.int .i64 a, .int .i64 K, .bool up, .sl 3 (flE fs), .int .i64 ep, .sl 1 (vwE vs), .sl 1 (isE tk), .sl 3 (chE al), .int .i64 re, .int .i64 rt, .int .i64 rk]] (.agg [.int .i64 a, .int .i64 K, .bool up, .sl 3 (flE fs), .int .i64 ep, .sl 1 (vwE vs), .sl 1 (isE tk), .sl 3 (chE al), .int .i64 re, .int .i64 rt, .int .i64 rk]) [] := by
 have l1 := zdH vs
 have l2 : (isE tk).length = tk.length := by simp [isE]
 have l3 := z2M al
 have l4 := z42 fs
 refine z01 z03 1 rfl Tryz.func79 rfl rfl rfl ?_
 conv => arg 6; whnf
 repeat ((try conv => whnf); first | (with_reducible (refine z0n (fun Qs hN hE hR => ?_))) | (with_reducible (refine z0l ?_)) | (with_reducible (refine z05 (fun Qb kN kE kX kR => ?_))) | (with_reducible (refine z08 ?_)) | (with_reducible (refine z09 ?_)) | (with_reducible (refine z0m ?_)) | (with_reducible (refine z0a ?_)) | (with_reducible (refine z0b ?_)) | (with_reducible (show W _ _ _ (.cond _ _ _) _ _); refine z07 rfl ?_) | (with_reducible (refine hN _ ?_); (try clear hN hE hR Qs)) | (with_reducible (refine hE _ _ ?_); (try clear hN hE hR Qs)) | (with_reducible (refine hR _ ?_); (try clear hN hE hR Qs)) | (with_reducible (refine kN _ ?_); (try clear kN kE kX kR Qb)) | (with_reducible (refine kE _ ?_); (try clear kN kE kX kR Qb)) | (with_reducible (refine kX _ _ rfl ?_); (try clear kN kE kX kR Qb)) | (with_reducible (refine kR _ ?_); (try clear kN kE kX kR Qb)) | (refine And.intro (by simp only [List.length_append, List.length_set, List.length_replicate, List.length_cons, List.length_nil, List.nil_append]; omega) ?_) | (refine And.intro (by kernel_rfl) ?_) | (refine stpQ ?_))
 refine z0A 0 ⟨[(1, .ptr 1 0 0), (2, .ptr 2 0 0), (3, .ptr 3 0 0)], [(1, some (.box [.int .i64 a, .int .i64 K, .bool up, .sl 3 (flE fs), .int .i64 ep, .sl 1 (vwE vs), .sl 1 (isE tk), .sl 3 (chE al), .int .i64 re, .int .i64 rt, .int .i64 rk])), (2, some (.box [.int .i64 0, .int .i64 0, .bool false, .val nilV, .int .i64 0, .val nilV, .val nilV, .val nilV, .int .i64 0, .int .i64 0, .int .i64 0])), (3, some (.box [.int .i64 a, .int .i64 K, .bool up, .sl 3 (flE fs), .int .i64 ep, .ref 4, .sl 1 (isE tk), .sl 3 (chE al), .int .i64 re, .int .i64 rt, .int .i64 rk])), (4, some (.row 1 (vwE vs)))], 5⟩ Nat (fun i => ⟨[(1, .ptr 1 0 0), (2, .ptr 2 0 0), (3, .ptr 3 0 0), (4, .int .i64 (i : Int))], [(1, some (.box [.int .i64 a, .int .i64 K, .bool up, .sl 3 (flE fs), .int .i64 ep, .sl 1 (vwE vs), .sl 1 (isE tk), .sl 3 (chE al), .int .i64 re, .int .i64 rt, .int .i64 rk])), (2, some (.box [.int .i64 0, .int .i64 0, .bool false, .val nilV, .int .i64 0, .val nilV, .val nilV, .val nilV, .int .i64 0, .int .i64 0, .int .i64 0])), (3, some (.box [.int .i64 a, .int .i64 K, .bool up, .sl 3 (flE fs), .int .i64 ep, .ref 4, .sl 1 (isE tk), .sl 3 (chE al), .int .i64 re, .int .i64 rt, .int .i64 rk])), (4, some (.row 1 (vwE (vs.take i))))], 5⟩) (fun i => i ≤ vs.length) (fun i => vs.length - i) 0 (Nat.zero_le _) ?_ ?_ ?_
 ·(refine z02 (by rfl) ?_ ?_) <;> (repeat' (first | (exact eqA) | (refine And.intro ?_ ?_) | ((fail_if_success (with_reducible (show _ = _))); (show _ = _)))) <;> first | rfl | (simp; done)
 ·intro i hi
  by_cases hlt : i < vs.length
  ·have f1 : (i : Int) < ((vwE vs).length : Int) := by omega
   have f2 : i < (vwE vs).length := by omega
   have gi := vw_get hlt
   have hn := zfI vs i hlt
   have hv : (vAt vs i).length ≤ 1048576 := by rw [zfH hlt]; exact h4 _ (List.getElem_mem hlt)
   have hlv := z0Y (vAt vs i)
   have hw : (vwE (vs.take i)).length ≤ 1048576 := by rw [zdH, List.length_take]; omega
   have m1 : vs.length - (i + 1) < vs.length - i := by omega
   generalize vAt vs i = v at *
   repeat ((try conv => whnf); first | (with_reducible (refine z0n (fun Qs hN hE hR => ?_))) | (with_reducible (refine z0l ?_)) | (with_reducible (refine z05 (fun Qb kN kE kX kR => ?_))) | (with_reducible (refine z08 ?_)) | (with_reducible (refine z09 ?_)) | (with_reducible (refine z0m ?_)) | (with_reducible (refine z0a ?_)) | (with_reducible (refine z0b ?_)) | (with_reducible (show W _ _ _ (.cond _ _ _) _ _); refine z07 rfl ?_) | (with_reducible (refine hN _ ?_); (try clear hN hE hR Qs)) | (with_reducible (refine hE _ _ ?_); (try clear hN hE hR Qs)) | (with_reducible (refine hR _ ?_); (try clear hN hE hR Qs)) | (with_reducible (refine kN _ ?_); (try clear kN kE kX kR Qb)) | (with_reducible (refine kE _ ?_); (try clear kN kE kX kR Qb)) | (with_reducible (refine kX _ _ rfl ?_); (try clear kN kE kX kR Qb)) | (with_reducible (refine kR _ ?_); (try clear kN kE kX kR Qb)) | (refine z0t f1 ?_) | (refine i_at gi ?_) | (refine And.intro f2 ?_) | (refine Exists.intro _ (And.intro gi ?_)) | (refine And.intro (by simp only [List.length_append, List.length_set, List.length_replicate, List.length_cons, List.length_nil, List.nil_append]; omega) ?_) | (refine And.intro (by kernel_rfl) ?_) | (refine stpQ ?_))
   refine ⟨i + 1, hlt, m1, ?_⟩
   rw [hn, vw_app, zfM]
   (refine z02 (by rfl) ?_ ?_) <;> (repeat' (first | (exact eqA) | (refine And.intro ?_ ?_) | ((fail_if_success (with_reducible (show _ = _))); (show _ = _)))) <;> rfl
  ·obtain rfl : i = vs.length := by omega
   have f1 : ¬ (vs.length : Int) < ((vwE vs).length : Int) := by omega
   repeat ((try conv => whnf); first | (with_reducible (refine z0n (fun Qs hN hE hR => ?_))) | (with_reducible (refine z0l ?_)) | (with_reducible (refine z05 (fun Qb kN kE kX kR => ?_))) | (with_reducible (refine z08 ?_)) | (with_reducible (refine z09 ?_)) | (with_reducible (refine z0m ?_)) | (with_reducible (refine z0a ?_)) | (with_reducible (refine z0b ?_)) | (with_reducible (show W _ _ _ (.cond _ _ _) _ _); refine z07 rfl ?_) | (with_reducible (refine hN _ ?_); (try clear hN hE hR Qs)) | (with_reducible (refine hE _ _ ?_); (try clear hN hE hR Qs)) | (with_reducible (refine hR _ ?_); (try clear hN hE hR Qs)) | (with_reducible (refine kN _ ?_); (try clear kN kE kX kR Qb)) | (with_reducible (refine kE _ ?_); (try clear kN kE kX kR Qb)) | (with_reducible (refine kX _ _ rfl ?_); (try clear kN kE kX kR Qb)) | (with_reducible (refine kR _ ?_); (try clear kN kE kX kR Qb)) | (refine z0i f1 ?_) | (refine stpQ ?_))
   rw [List.take_length]
   (refine z02 (by rfl) ?_ ?_) <;> (repeat' (first | (exact eqA) | (refine And.intro ?_ ?_) | ((fail_if_success (with_reducible (show _ = _))); (show _ = _)))) <;> rfl
 ·repeat ((try conv => whnf); first | (with_reducible (refine z0n (fun Qs hN hE hR => ?_))) | (with_reducible (refine z0l ?_)) | (with_reducible (refine z05 (fun Qb kN kE kX kR => ?_))) | (with_reducible (refine z08 ?_)) | (with_reducible (refine z09 ?_)) | (with_reducible (refine z0m ?_)) | (with_reducible (refine z0a ?_)) | (with_reducible (refine z0b ?_)) | (with_reducible (show W _ _ _ (.cond _ _ _) _ _); refine z07 rfl ?_) | (with_reducible (refine hN _ ?_); (try clear hN hE hR Qs)) | (with_reducible (refine hE _ _ ?_); (try clear hN hE hR Qs)) | (with_reducible (refine hR _ ?_); (try clear hN hE hR Qs)) | (with_reducible (refine kN _ ?_); (try clear kN kE kX kR Qb)) | (with_reducible (refine kE _ ?_); (try clear kN kE kX kR Qb)) | (with_reducible (refine kX _ _ rfl ?_); (try clear kN kE kX kR Qb)) | (with_reducible (refine kR _ ?_); (try clear kN kE kX kR Qb)) | (refine And.intro (by simp only [List.length_append, List.length_set, List.length_replicate, List.length_cons, List.length_nil, List.nil_append]; omega) ?_) | (refine And.intro (by kernel_rfl) ?_) | (refine stpQ ?_))
  (refine z00 (by rfl) ?_ ?_ (by rfl)) <;> (repeat' (first | (exact eqA) | (refine And.intro ?_ ?_) | ((fail_if_success (with_reducible (show _ = _))); (show _ = _))))
theorem zfn (a K : Int) (ep re rt rk : Int) (fs : List Fl) (vs : List (List Lf)) (tk : List Int) (al : List Ch) (hf : fs.length ≤ 1048576) (h1 : vs.length ≤ 1048576) (h4 : ∀ v ∈ vs, v.length ≤ 1048576) (h2 : tk.length ≤ 1048576) (h3 : al.length ≤ 1048576) :
 CT Tryz.prog 24 [] [.agg [.int .i64 a, .int .i64 K, .bool true, .sl 3 (flE fs), .int .i64 ep, .sl 1 (vwE vs), .sl 1 (isE tk), .sl 3 (chE al), .int .i64 re, .int .i64 rt, .int .i64 rk]] (.agg [.int .i64 a, .int .i64 K, .bool true, .sl 3 (flE fs), .int .i64 ep, .sl 1 (vwE vs), .sl 1 (isE tk), .sl 3 (chE al), .int .i64 re, .int .i64 rt, .int .i64 rk]) [] := by
 have c1 := zfy a K true ep re rt rk fs vs tk al hf h1 h4 h2 h3
 refine z01 z03 1 rfl Tryz.func24 rfl rfl rfl ?_
 conv => arg 6; whnf
 repeat ((try conv => whnf); first | (with_reducible (refine z0n (fun Qs hN hE hR => ?_))) | (with_reducible (refine z0l ?_)) | (with_reducible (refine z05 (fun Qb kN kE kX kR => ?_))) | (with_reducible (refine z08 ?_)) | (with_reducible (refine z09 ?_)) | (with_reducible (refine z0m ?_)) | (with_reducible (refine z0a ?_)) | (with_reducible (refine z0b ?_)) | (with_reducible (show W _ _ _ (.cond _ _ _) _ _); refine z07 rfl ?_) | (with_reducible (refine hN _ ?_); (try clear hN hE hR Qs)) | (with_reducible (refine hE _ _ ?_); (try clear hN hE hR Qs)) | (with_reducible (refine hR _ ?_); (try clear hN hE hR Qs)) | (with_reducible (refine kN _ ?_); (try clear kN kE kX kR Qb)) | (with_reducible (refine kE _ ?_); (try clear kN kE kX kR Qb)) | (with_reducible (refine kX _ _ rfl ?_); (try clear kN kE kX kR Qb)) | (with_reducible (refine kR _ ?_); (try clear kN kE kX kR Qb)) | (refine ccA ([]) (c1) ?_) | (refine stpQ ?_))
 (refine z00 (by rfl) ?_ ?_ (by rfl)) <;> (repeat' (first | (exact eqA) | (refine And.intro ?_ ?_) | ((fail_if_success (with_reducible (show _ = _))); (show _ = _))))
theorem zfz (a K : Int) (ep re rt rk : Int) (fs : List Fl) (vs : List (List Lf)) (tk : List Int) (al : List Ch) (hf : fs.length ≤ 1048576) (h1 : vs.length ≤ 1048576) (h4 : ∀ v ∈ vs, v.length ≤ 1048576) (h2 : tk.length ≤ 1048576) (h3 : al.length ≤ 1048576) :
 CT Tryz.prog 26 [] [.agg [.int .i64 a, .int .i64 K, .bool true, .sl 3 (flE fs), .int .i64 ep, .sl 1 (vwE vs), .sl 1 (isE tk), .sl 3 (chE al), .int .i64 re, .int .i64 rt, .int .i64 rk]] (.agg [.int .i64 a, .int .i64 K, .bool true, .ref 1, .int .i64 ep, .ref 2, .ref 3, .ref 4, .int .i64 re, .int .i64 rt, .int .i64 rk]) [.deep 3 (flE fs) [], .deep 1 (vwD vs) [], .deep 1 (isE tk) [], .deep 3 (chE al) []] := by
 have c1 := zeP a K true ep re rt rk fs vs tk al hf h1 h4 h2 h3
 refine z01 z03 1 rfl Tryz.func26 rfl rfl rfl ?_
 conv => arg 6; whnf
 repeat ((try conv => whnf); first | (with_reducible (refine z0n (fun Qs hN hE hR => ?_))) | (with_reducible (refine z0l ?_)) | (with_reducible (refine z05 (fun Qb kN kE kX kR => ?_))) | (with_reducible (refine z08 ?_)) | (with_reducible (refine z09 ?_)) | (with_reducible (refine z0m ?_)) | (with_reducible (refine z0a ?_)) | (with_reducible (refine z0b ?_)) | (with_reducible (show W _ _ _ (.cond _ _ _) _ _); refine z07 rfl ?_) | (with_reducible (refine hN _ ?_); (try clear hN hE hR Qs)) | (with_reducible (refine hE _ _ ?_); (try clear hN hE hR Qs)) | (with_reducible (refine hR _ ?_); (try clear hN hE hR Qs)) | (with_reducible (refine kN _ ?_); (try clear kN kE kX kR Qb)) | (with_reducible (refine kE _ ?_); (try clear kN kE kX kR Qb)) | (with_reducible (refine kX _ _ rfl ?_); (try clear kN kE kX kR Qb)) | (with_reducible (refine kR _ ?_); (try clear kN kE kX kR Qb)) | (refine ccA ([]) (c1) ?_) | (refine stpQ ?_))
 (refine z00 (by rfl) ?_ ?_ (by rfl)) <;> (repeat' (first | (exact eqA) | (refine And.intro ?_ ?_) | ((fail_if_success (with_reducible (show _ = _))); (show _ = _))))
theorem zfo (a K : Int) (ep re rt rk : Int) (fs : List Fl) (V U C : List (List T)) (hf : z6o fs) :
 CT Tryz.prog 24 [] [.agg [.int .i64 a, .int .i64 K, .bool false, .sl 3 (flE fs), .int .i64 ep, .sl 1 V, .sl 1 U, .sl 3 C, .int .i64 re, .int .i64 rt, .int .i64 rk]] (.agg (svE a K true fs (vwE (svOf a K (z0p fs z0e)).vs) (svOf a K (z0p fs z0e)))) [] := by
 have c1 := z6t a K fs hf
 generalize svOf a K (z0p fs z0e) = s at *
 unfold svE at *
 refine z01 z03 1 rfl Tryz.func24 rfl rfl rfl ?_
 conv => arg 6; whnf
 repeat ((try conv => whnf); first | (with_reducible (refine z0n (fun Qs hN hE hR => ?_))) | (with_reducible (refine z0l ?_)) | (with_reducible (refine z05 (fun Qb kN kE kX kR => ?_))) | (with_reducible (refine z08 ?_)) | (with_reducible (refine z09 ?_)) | (with_reducible (refine z0m ?_)) | (with_reducible (refine z0a ?_)) | (with_reducible (refine z0b ?_)) | (with_reducible (show W _ _ _ (.cond _ _ _) _ _); refine z07 rfl ?_) | (with_reducible (refine hN _ ?_); (try clear hN hE hR Qs)) | (with_reducible (refine hE _ _ ?_); (try clear hN hE hR Qs)) | (with_reducible (refine hR _ ?_); (try clear hN hE hR Qs)) | (with_reducible (refine kN _ ?_); (try clear kN kE kX kR Qb)) | (with_reducible (refine kE _ ?_); (try clear kN kE kX kR Qb)) | (with_reducible (refine kX _ _ rfl ?_); (try clear kN kE kX kR Qb)) | (with_reducible (refine kR _ ?_); (try clear kN kE kX kR Qb)) | (refine ccA ([]) (c1) ?_) | (refine stpQ ?_))
 (refine z00 (by rfl) ?_ ?_ (by rfl)) <;> (repeat' (first | (exact eqA) | (refine And.intro ?_ ?_) | ((fail_if_success (with_reducible (show _ = _))); (show _ = _))))
theorem zfA (a K : Int) (ep re rt rk : Int) (fs : List Fl) (V U C : List (List T)) (hf : z6o fs) :
 CT Tryz.prog 26 [] [.agg [.int .i64 a, .int .i64 K, .bool false, .sl 3 (flE fs), .int .i64 ep, .sl 1 V, .sl 1 U, .sl 3 C, .int .i64 re, .int .i64 rt, .int .i64 rk]] (.agg [.int .i64 a, .int .i64 K, .bool true, .ref 1, .int .i64 ((svOf a K (z0p fs z0e)).ep : Int), .ref 2, .ref 3, .ref 4, .int .i64 ((svOf a K (z0p fs z0e)).re : Int), .int .i64 ((svOf a K (z0p fs z0e)).rt : Int), .int .i64 ((svOf a K (z0p fs z0e)).rk : Int)]) [.deep 3 (flE fs) [], .deep 1 (vwD (svOf a K (z0p fs z0e)).vs) [], .deep 1 (ntE (svOf a K (z0p fs z0e)).tk) [], .deep 3 (chE (svOf a K (z0p fs z0e)).al) []] := by
 have c1 := z7u a K fs hf
 generalize svOf a K (z0p fs z0e) = s at *
 refine z01 z03 1 rfl Tryz.func26 rfl rfl rfl ?_
 conv => arg 6; whnf
 repeat ((try conv => whnf); first | (with_reducible (refine z0n (fun Qs hN hE hR => ?_))) | (with_reducible (refine z0l ?_)) | (with_reducible (refine z05 (fun Qb kN kE kX kR => ?_))) | (with_reducible (refine z08 ?_)) | (with_reducible (refine z09 ?_)) | (with_reducible (refine z0m ?_)) | (with_reducible (refine z0a ?_)) | (with_reducible (refine z0b ?_)) | (with_reducible (show W _ _ _ (.cond _ _ _) _ _); refine z07 rfl ?_) | (with_reducible (refine hN _ ?_); (try clear hN hE hR Qs)) | (with_reducible (refine hE _ _ ?_); (try clear hN hE hR Qs)) | (with_reducible (refine hR _ ?_); (try clear hN hE hR Qs)) | (with_reducible (refine kN _ ?_); (try clear kN kE kX kR Qb)) | (with_reducible (refine kE _ ?_); (try clear kN kE kX kR Qb)) | (with_reducible (refine kX _ _ rfl ?_); (try clear kN kE kX kR Qb)) | (with_reducible (refine kR _ ?_); (try clear kN kE kX kR Qb)) | (refine ccA ([]) (c1) ?_) | (refine stpQ ?_))
 (refine z00 (by rfl) ?_ ?_ (by rfl)) <;> (repeat' (first | (exact eqA) | (refine And.intro ?_ ?_) | ((fail_if_success (with_reducible (show _ = _))); (show _ = _))))
theorem zeN (a K : Int) (up : Bool) (ep re rt rk : Int) (fs : List Fl) (vs : List (List Lf)) (tk : List Int) (al : List Ch)
 (f0 : Fits maxLen z2y [.int .i64 a, .int .i64 K, .bool up, .sl 3 (flE fs), .int .i64 ep, .sl 1 (vwE vs), .sl 1 (isE tk), .sl 3 (chE al), .int .i64 re, .int .i64 rt, .int .i64 rk])
 (y0 : ¬ szG z2y [.int .i64 a, .int .i64 K, .bool up, .sl 3 (flE fs), .int .i64 ep, .sl 1 (vwE vs), .sl 1 (isE tk), .sl 3 (chE al), .int .i64 re, .int .i64 rt, .int .i64 rk] 1048576 < 0)
 (q : Fits 1048576 z2y [.int .i64 a, .int .i64 K, .bool up, .sl 3 (flE fs), .int .i64 ep, .sl 1 (vwE vs), .sl 1 (isE tk), .sl 3 (chE al), .int .i64 re, .int .i64 rt, .int .i64 rk])
 (h3 : (flE fs).length ≤ 1048576 ∧ ∀ e ∈ flE fs, Fits 1048576 z0s e) (h5 : (vwE vs).length ≤ 1048576 ∧ ∀ e ∈ vwE vs, Fits 1048576 (.sl 2 z2x) e) (h6 : (isE tk).length ≤ 1048576 ∧ ∀ e ∈ isE tk, Fits 1048576 .int e) (h7 : (chE al).length ≤ 1048576 ∧ ∀ e ∈ chE al, Fits 1048576 z1S e) (hv : ∀ v ∈ vs, v.length ≤ 1048576)
 (A' K' : Int) (up' : Bool) (ep' re' rt' rk' : Int) (vs' : List (List Lf)) (tk' : List Int) (al' : List Ch)
 (ho : Fits 1048576 z2y [.int .i64 A', .int .i64 K', .bool up', .sl 3 (flE fs), .int .i64 ep', .sl 1 (vwE vs'), .sl 1 (isE tk'), .sl 3 (chE al'), .int .i64 re', .int .i64 rt', .int .i64 rk'])
 (hv' : ∀ v ∈ vs', v.length ≤ 1048576)
 (s1 : CT Tryz.prog 24 [] [.agg [.int .i64 a, .int .i64 K, .bool up, .sl 3 (flE fs), .int .i64 ep, .sl 1 (vwE vs), .sl 1 (isE tk), .sl 3 (chE al), .int .i64 re, .int .i64 rt, .int .i64 rk]] (.agg [.int .i64 A', .int .i64 K', .bool up', .sl 3 (flE fs), .int .i64 ep', .sl 1 (vwE vs'), .sl 1 (isE tk'), .sl 3 (chE al'), .int .i64 re', .int .i64 rt', .int .i64 rk']) [])
 (s2 : CT Tryz.prog 26 [] [.agg [.int .i64 a, .int .i64 K, .bool up, .sl 3 (ucE (flE fs)), .int .i64 ep, .sl 1 (ucE (vwD vs)), .sl 1 (ucE (isE tk)), .sl 3 (ucE (chE al)), .int .i64 re, .int .i64 rt, .int .i64 rk]] (.agg [.int .i64 A', .int .i64 K', .bool up', .ref 1, .int .i64 ep', .ref 2, .ref 3, .ref 4, .int .i64 re', .int .i64 rt', .int .i64 rk']) [.deep 3 (flE fs) [], .deep 1 (vwD vs') [], .deep 1 (isE tk') [], .deep 3 (chE al') []]) :
 CT Tryz.prog 5 [] [.agg [.int .i64 a, .int .i64 K, .bool up, .sl 3 (flE fs), .int .i64 ep, .sl 1 (vwE vs), .sl 1 (isE tk), .sl 3 (chE al), .int .i64 re, .int .i64 rt, .int .i64 rk]] (.bool true) [] := by
 have c0 := zeM _ 1048576 f0 (by omega)
 generalize szG z2y _ 1048576 = r0 at c0 y0
 have t0 := zf4 _ q
 have t1 := zeZ a K up ep re rt rk fs vs tk al q h3 h5 h6 h7
 have u1 := zeJ A' K' up' ep' re' rt' rk' _ _ _ _ ho (ucE (flE fs)) (ucE (vwD vs')) (ucE (isE tk')) (ucE (chE al')) (flE fs) (vwE vs') (isE tk') (chE al') (zdb fs) (zeU vs') (zfj tk') (zf2 al') rfl rfl rfl rfl
 have u2 := zeJ a K up ep re rt rk _ _ _ _ q (ucE (flE fs)) (ucE (vwD vs)) (ucE (isE tk)) (ucE (chE al)) (ucE (flE fs)) (ucE (vwD vs)) (ucE (isE tk)) (ucE (chE al)) (zdb fs) (zeU vs) (zfj tk) (zf2 al) (zdb fs) (zeU vs) (zfj tk) (zf2 al)
 have n1 := cn_fl (flE fs)
 have n2 := zfl (N := 1048576) vs hv
 have n3 := zfJ (isE tk)
 have n4 := zfK (chE al)
 have n5 := zc3 vs
 have n6 := zdH vs
 have o2 := zfl (N := 1048576) vs' hv'
 have o3 := zfJ (isE tk')
 have o4 := zfK (chE al')
 have o5 := zc3 vs'
 have o6 := zdH vs'
 obtain ⟨m0, m1, m2, m3, m4, m5, m6, m7, m8, m9, m10, he, -, -, -, -, -, p5, p6, p7, -⟩ := z7Z ho
 simp only [List.cons.injEq, T.sl.injEq, true_and, and_true] at he
 obtain ⟨-, -, -, -, -, e5, e6, e7, -⟩ := he
 subst e5 e6 e7
 have l5 := p5.1
 have l6 := p6.1
 have l7 := p7.1
 have k3 := h3.1
 have k5 := h5.1
 have k6 := h6.1
 have k7 := h7.1
 have d1 := z7x a K up ep re rt rk (flE fs) (zeH fs) (by omega) (vwD vs) (zfk vs (N := 1048576) (by omega) hv) (by omega) (isE tk) (zfL tk) (by omega) (chE al) (zfg al) (by omega) 1 (by decide) (by omega)
 have d2 := z7x A' K' up' ep' re' rt' rk' (flE fs) (zeH fs) (by omega) (vwD vs') (zfk vs' (N := 1048576) (by omega) hv') (by omega) (isE tk') (zfL tk') (by omega) (chE al') (zfg al') (by omega) 1 (by decide) (by omega)
 have d3 := z7y A' K' up' ep' re' rt' rk' (flE fs) (zeH fs) (by omega) (vwD vs') (zfk vs' (N := 1048576) (by omega) hv') (by omega) (isE tk') (zfL tk') (by omega) (chE al') (zfg al') (by omega) 1 (by decide) (by omega)
 have y1 : ¬ ((1 + cnG szFl (flE fs) + cnG z0j (vwD vs) + cnG szIt (isE tk) + cnG szCh (chE al) : Nat) : Int) < 0 := by omega
 generalize ((1 + cnG szFl (flE fs) + cnG z0j (vwD vs) + cnG szIt (isE tk) + cnG szCh (chE al) : Nat) : Int) = m1' at d1 y1
 generalize mkG elFl szFl 1 (flE fs) = r1 at d1
 generalize mkG z1p z0j _ (vwD vs) = r2 at d1
 generalize mkG elIt szIt _ (isE tk) = r3 at d1
 generalize mkG elCh szCh _ (chE al) = r4 at d1
 have y2 : ¬ ((1 + cnG szFl (flE fs) + cnG z0j (vwD vs') + cnG szIt (isE tk') + cnG szCh (chE al') : Nat) : Int) < 0 := by omega
 generalize ((1 + cnG szFl (flE fs) + cnG z0j (vwD vs') + cnG szIt (isE tk') + cnG szCh (chE al') : Nat) : Int) = m2' at d2 d3 y2
 have y3 : m2' = m2' := rfl
 generalize mkG elFl szFl 1 (flE fs) = p1 at d2 d3
 generalize mkG z1p z0j _ (vwD vs') = p2 at d2 d3
 generalize mkG elIt szIt _ (isE tk') = p3 at d2 d3
 generalize mkG elCh szCh _ (chE al') = p4 at d2 d3
 clear n1 n2 n3 n4 n5 n6 o2 o3 o4 o5 o6 l5 l6 l7 k3 k5 k6 k7 p5 p6 p7 ho q f0 h3 h5 h6 h7 hv hv'
 refine z01 z03 1 rfl Tryz.func5 rfl rfl rfl ?_
 conv => arg 6; whnf
 repeat ((try conv => whnf); first | (with_reducible (refine z0n (fun Qs hN hE hR => ?_))) | (with_reducible (refine z0l ?_)) | (with_reducible (refine z05 (fun Qb kN kE kX kR => ?_))) | (with_reducible (refine z08 ?_)) | (with_reducible (refine z09 ?_)) | (with_reducible (refine z0m ?_)) | (with_reducible (refine z0a ?_)) | (with_reducible (refine z0b ?_)) | (with_reducible (show W _ _ _ (.cond _ _ _) _ _); refine z07 rfl ?_) | (with_reducible (refine hN _ ?_); (try clear hN hE hR Qs)) | (with_reducible (refine hE _ _ ?_); (try clear hN hE hR Qs)) | (with_reducible (refine hR _ ?_); (try clear hN hE hR Qs)) | (with_reducible (refine kN _ ?_); (try clear kN kE kX kR Qb)) | (with_reducible (refine kE _ ?_); (try clear kN kE kX kR Qb)) | (with_reducible (refine kX _ _ rfl ?_); (try clear kN kE kX kR Qb)) | (with_reducible (refine kR _ ?_); (try clear kN kE kX kR Qb)) | (refine ccA ([]) (c0) ?_) | (refine z0i y0 ?_) | (refine stpQ ?_))
 iterate 1 ((try conv => whnf); first | (with_reducible (refine z0n (fun Qs hN hE hR => ?_))) | (with_reducible (refine z0l ?_)) | (with_reducible (refine z05 (fun Qb kN kE kX kR => ?_))) | (with_reducible (refine z08 ?_)) | (with_reducible (refine z09 ?_)) | (with_reducible (refine z0m ?_)) | (with_reducible (refine z0a ?_)) | (with_reducible (refine z0b ?_)) | (with_reducible (show W _ _ _ (.cond _ _ _) _ _); refine z07 rfl ?_) | (with_reducible (refine hN _ ?_); (try clear hN hE hR Qs)) | (with_reducible (refine hE _ _ ?_); (try clear hN hE hR Qs)) | (with_reducible (refine hR _ ?_); (try clear hN hE hR Qs)) | (with_reducible (refine kN _ ?_); (try clear kN kE kX kR Qb)) | (with_reducible (refine kE _ ?_); (try clear kN kE kX kR Qb)) | (with_reducible (refine kX _ _ rfl ?_); (try clear kN kE kX kR Qb)) | (with_reducible (refine kR _ ?_); (try clear kN kE kX kR Qb)) | (refine ccA ([]) (t0) ?_) | (refine stpQ ?_))
 repeat ((try conv => whnf); first | (with_reducible (refine z0n (fun Qs hN hE hR => ?_))) | (with_reducible (refine z0l ?_)) | (with_reducible (refine z05 (fun Qb kN kE kX kR => ?_))) | (with_reducible (refine z08 ?_)) | (with_reducible (refine z09 ?_)) | (with_reducible (refine z0m ?_)) | (with_reducible (refine z0a ?_)) | (with_reducible (refine z0b ?_)) | (with_reducible (show W _ _ _ (.cond _ _ _) _ _); refine z07 rfl ?_) | (with_reducible (refine hN _ ?_); (try clear hN hE hR Qs)) | (with_reducible (refine hE _ _ ?_); (try clear hN hE hR Qs)) | (with_reducible (refine hR _ ?_); (try clear hN hE hR Qs)) | (with_reducible (refine kN _ ?_); (try clear kN kE kX kR Qb)) | (with_reducible (refine kE _ ?_); (try clear kN kE kX kR Qb)) | (with_reducible (refine kX _ _ rfl ?_); (try clear kN kE kX kR Qb)) | (with_reducible (refine kR _ ?_); (try clear kN kE kX kR Qb)) | (refine ccA ([]) (s1) ?_) | (refine stpQ ?_))
 repeat ((try conv => whnf); first | (with_reducible (refine z0n (fun Qs hN hE hR => ?_))) | (with_reducible (refine z0l ?_)) | (with_reducible (refine z05 (fun Qb kN kE kX kR => ?_))) | (with_reducible (refine z08 ?_)) | (with_reducible (refine z09 ?_)) | (with_reducible (refine z0m ?_)) | (with_reducible (refine z0a ?_)) | (with_reducible (refine z0b ?_)) | (with_reducible (show W _ _ _ (.cond _ _ _) _ _); refine z07 rfl ?_) | (with_reducible (refine hN _ ?_); (try clear hN hE hR Qs)) | (with_reducible (refine hE _ _ ?_); (try clear hN hE hR Qs)) | (with_reducible (refine hR _ ?_); (try clear hN hE hR Qs)) | (with_reducible (refine kN _ ?_); (try clear kN kE kX kR Qb)) | (with_reducible (refine kE _ ?_); (try clear kN kE kX kR Qb)) | (with_reducible (refine kX _ _ rfl ?_); (try clear kN kE kX kR Qb)) | (with_reducible (refine kR _ ?_); (try clear kN kE kX kR Qb)) | (refine ccA ([]) (t1) ?_) | (refine ccA ([]) (s2) ?_) | (refine ccA ([]) (u1) ?_) | (refine ccA ([]) (u2) ?_) | (refine ccB ([_, _, _, _]) (d1) ?_) | (refine ccB ([_, _, _, _]) (d2) ?_) | (refine ccB ([_, _, _, _]) (d3) ?_) | (refine z0i y1 ?_) | (refine z0i y2 ?_) | (refine z1v y3 ?_) | (refine And.intro (by kernel_rfl) ?_) | (refine stpQ ?_))
 (refine z00 (by rfl) ?_ ?_ (by rfl)) <;> (repeat' (first | (exact eqA) | (refine And.intro ?_ ?_) | ((fail_if_success (with_reducible (show _ = _))); (show _ = _))))
end
section
attribute [local irreducible] z0F z0I z0T AnsP LeP W CvE
theorem zfB (e0 : List T) (f0 : Fits maxLen z2y e0) (h0 : szG z2y e0 1048576 < 0) : CT Tryz.prog 5 [] [.agg e0] (.bool true) [] := by
 have c0 := zeM e0 1048576 f0 (by omega)
 obtain ⟨n0, n1, b2, z3, n4, z5, z6, z7, n8, n9, n10, rfl, -⟩ := z7Z f0
 generalize szG z2y _ 1048576 = r0 at c0 h0
 refine z01 z03 1 rfl Tryz.func5 rfl rfl rfl ?_
 conv => arg 6; whnf
 repeat ((try conv => whnf); first | (with_reducible (refine z0n (fun Qs hN hE hR => ?_))) | (with_reducible (refine z0l ?_)) | (with_reducible (refine z05 (fun Qb kN kE kX kR => ?_))) | (with_reducible (refine z08 ?_)) | (with_reducible (refine z09 ?_)) | (with_reducible (refine z0m ?_)) | (with_reducible (refine z0a ?_)) | (with_reducible (refine z0b ?_)) | (with_reducible (show W _ _ _ (.cond _ _ _) _ _); refine z07 rfl ?_) | (with_reducible (refine hN _ ?_); (try clear hN hE hR Qs)) | (with_reducible (refine hE _ _ ?_); (try clear hN hE hR Qs)) | (with_reducible (refine hR _ ?_); (try clear hN hE hR Qs)) | (with_reducible (refine kN _ ?_); (try clear kN kE kX kR Qb)) | (with_reducible (refine kE _ ?_); (try clear kN kE kX kR Qb)) | (with_reducible (refine kX _ _ rfl ?_); (try clear kN kE kX kR Qb)) | (with_reducible (refine kR _ ?_); (try clear kN kE kX kR Qb)) | (refine ccA ([]) (c0) ?_) | (refine z0t h0 ?_) | (refine stpQ ?_))
 (refine z00 (by rfl) ?_ ?_ (by rfl)) <;> (repeat' (first | (exact eqA) | (refine And.intro ?_ ?_) | ((fail_if_success (with_reducible (show _ = _))); (show _ = _))))
end
theorem zeK (e0 : List T) (f0 : Fits maxLen z2y e0) : CT Tryz.prog 5 [] [.agg e0] (.bool true) [] := by
 have g0 := z4j (N := 1048576) z2y e0 1048576 (by omega) f0 (by omega)
 by_cases h0 : szG z2y e0 1048576 < 0
 ·exact zfB e0 f0 h0
 have q := g0 (by omega)
 obtain ⟨n0, n1, b2, z3, n4, z5, z6, z7, n8, n9, n10, rfl, hA, hK, -, q3, -, q5, q6, q7, -, -, -, -⟩ := z7Z q
 obtain ⟨fs, rfl, h3⟩ := zfC q3.2
 obtain ⟨vs, rfl, h5⟩ := dec_vw q5.2
 obtain ⟨tk, rfl⟩ := dec_is q6.2
 obtain ⟨al, rfl, h7⟩ := dec_ch q7.2
 have a3 := q3.1
 have a5 := q5.1
 have a6 := q6.1
 have a7 := q7.1
 rw [z42] at a3
 rw [zdH] at a5
 rw [is_len] at a6
 rw [z2M] at a7
 have hf := zfD (by omega) a3 h3
 have hv : ∀ v ∈ vs, v.length ≤ 1048576 := fun v hv => by
  have := h5 v hv
  omega
 cases b2 with
 | true =>
   have s2 := zfz n0 n1 n4 n8 n9 n10 fs vs tk al a3 a5 hv a6 a7
   refine zeN n0 n1 true n4 n8 n9 n10 fs vs tk al f0 h0 q q3 q5 q6 q7 hv n0 n1 true n4 n8 n9 n10 vs tk al q hv (zfn n0 n1 n4 n8 n9 n10 fs vs tk al a3 a5 hv a6 a7) ?_
   rw [zdb, zeU, zfj, zf2]
   exact s2
 | false =>
   have s1 := zfo n0 n1 n4 n8 n9 n10 fs (vwE vs) (isE tk) (chE al) hf
   have s2 := zfA n0 n1 n4 n8 n9 n10 fs (vwE vs) (isE tk) (chE al) hf
   have hfacts := z1z fs z0e
   have gS : SvOk (z0p fs z0e).length (svOf n0 n1 (z0p fs z0e)) := z87 n0 n1 _
   have hlen : (z0p fs z0e).length ≤ 30000 := by omega
   generalize svOf n0 n1 (z0p fs z0e) = s at s1 s2 gS
   have fe := zeI n0 n1 hA hK fs q3 s gS hlen
   unfold svE at s1 fe
   rw [is_nt] at s1 s2 fe
   refine zeN n0 n1 false n4 n8 n9 n10 fs vs tk al f0 h0 q q3 q5 q6 q7 hv n0 n1 true (s.ep : Int) (s.re : Int) (s.rt : Int) (s.rk : Int) s.vs (s.tk.map fun (n : Nat) => (n : Int)) s.al fe (fun v hv => ?_) s1 ?_
   ·have := (z1D (gS.vo v hv)).1
    omega
   ·rw [zdb, zeU, zfj, zf2]
    exact s2
end Go.Proofs.YtbcgmjdfnjmhoaaGreatDoor
