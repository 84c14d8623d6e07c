/- Functions by content: the law of RiseServer. -/
import Derived.Test.YtbcgmjdfnjmhoaaGreatDoorLsn
namespace Go.Proofs.YtbcgmjdfnjmhoaaGreatDoor
set_option maxRecDepth 100000
set_option maxHeartbeats 4000000
set_option linter.unusedVariables false
set_option linter.unusedSimpArgs false
set_option linter.unusedSectionVars false
open Go.RowKit Pl
theorem cl_is (l : List Int) : ∀ e ∈ isE l, ∀ c ∈ e, cl0 c := fun e he c hc => by
 simp only [isE, List.mem_map] at he
 obtain ⟨x, _, rfl⟩ := he
 simp only [List.mem_singleton] at hc
 subst hc; trivial
theorem zfj (l : List Int) : ucE (isE l) = isE l := z3z fun e he c hc => by
 simp only [isE, List.mem_map] at he
 obtain ⟨x, _, rfl⟩ := he
 simp only [List.mem_singleton] at hc
 subst hc; rfl
theorem zfL (l : List Int) : WfIt (isE l) := fun e he => by
 simp only [isE, List.mem_map] at he
 obtain ⟨x, _, rfl⟩ := he
 exact ⟨_, rfl⟩
theorem zfk (l : List (List Lf)) {N : Nat} (hN : N ≤ 1000000000) (h : ∀ v ∈ l, v.length ≤ N) : zc8 (vwD l) := fun e he => by
 simp only [vwD, List.mem_map] at he
 obtain ⟨x, hx, rfl⟩ := he
 have := h x hx
 exact ⟨_, rfl, wf_lv x, by rw [z8p]; omega⟩
theorem zfl {N : Nat} : ∀ (l : List (List Lf)), (∀ v ∈ l, v.length ≤ N) → cnG z0j (vwD l) ≤ 2 * N * l.length
 | [], _ => Nat.zero_le _
 | v :: l, h => by
   have ih := zfl l fun v hv => h v (by simp [hv])
   have h1 := h v (by simp)
   show z0j [.own 2 (lvE v)] + cnG z0j (vwD l) ≤ _
   have h2 : z0j [.own 2 (lvE v)] = 0 + cnG szLf (lvE v) := rfl
   rw [h2, cn_lf, z8p, List.length_cons, Nat.mul_add, Nat.mul_one]
   omega
section
attribute [local irreducible] z0F z0I z0T AnsP LeP W CvE
theorem zeO (l : List Lf) (hl : (l.length : Int) ≤ 1000000000) : CT Tryz.prog 201 [] [.sl 2 (lvE l)] (.ref 1) [.deep 2 (lvE l) []] := zc1 0 (z1E l hl) rfl (by decide) (cl_lv l)
theorem zfx (n : Nat) : ∀ e ∈ List.replicate n ([.val nilV] : List T), ∀ c ∈ e, cl0 c := fun e he c hc => by
 rw [(List.mem_replicate.1 he).2] at hc
 rw [List.mem_singleton] at hc
 subst hc; trivial
theorem zfm {l : List (List Lf)} {k : Nat} (h : k < l.length) : (vwE l)[k]? = some [.sl 2 (lvE l[k])] := by simp [vwE, h]
theorem zeT (l : List (List Lf)) (h : l.length ≤ 1048576) (hv : ∀ v ∈ l, v.length ≤ 1048576) : CT Tryz.prog 158 [] [.sl 1 (vwE l)] (.ref 1) [.deep 1 (vwD l) []] := by
 have hl := zdH l
 refine z01 z03 1 rfl Tryz.func158 rfl rfl rfl ?_
 conv => arg 6; whnf
 repeat ((try conv => whnf); first | (with_reducible (refine z0n (fun Qs hN hE hR => ?_))) | (with_reducible (refine z0l ?_)) | (with_reducible (refine z05 (fun Qb kN kE kX kR => ?_))) | (with_reducible (refine z08 ?_)) | (with_reducible (refine z09 ?_)) | (with_reducible (refine z0m ?_)) | (with_reducible (refine z0a ?_)) | (with_reducible (refine z0b ?_)) | (with_reducible (show W _ _ _ (.cond _ _ _) _ _); refine z07 rfl ?_) | (with_reducible (refine hN _ ?_); (try clear hN hE hR Qs)) | (with_reducible (refine hE _ _ ?_); (try clear hN hE hR Qs)) | (with_reducible (refine hR _ ?_); (try clear hN hE hR Qs)) | (with_reducible (refine kN _ ?_); (try clear kN kE kX kR Qb)) | (with_reducible (refine kE _ ?_); (try clear kN kE kX kR Qb)) | (with_reducible (refine kX _ _ rfl ?_); (try clear kN kE kX kR Qb)) | (with_reducible (refine kR _ ?_); (try clear kN kE kX kR Qb)) | (refine Exists.intro l.length (And.intro hl ?_)) | (refine stpQ ?_))
 refine z0A 0 ⟨[(3, .ref 1)], [(1, some (.deep 1 (vwD l) []))], 2⟩ Nat (fun i => ⟨[(3, .ref 1), (6, .sl 1 (vwE l)), (7, .int .i64 ((l.length : Nat) : Int)), (8, .int .i64 (i : Int))], [(1, some (.deep 1 (vwD (l.take i)) []))], 2⟩) (fun i => i ≤ l.length) (fun i => l.length - i) 0 (Nat.zero_le _) ?_ ?_ ?_
 ·(refine z02 (by rfl) ?_ ?_) <;> (repeat' (first | (exact eqA) | (refine And.intro ?_ ?_) | ((fail_if_success (with_reducible (show _ = _))); (show _ = _)))) <;> first | rfl | decide
 ·intro i hi
  by_cases hlt : i < l.length
  ·have f1 : (i : Int) < ((l.length : Nat) : Int) := by omega
   have g := zfm hlt
   have c1 := zeO l[i] (by have := hv _ (List.getElem_mem hlt); omega)
   have hnx : vwD (l.take (i + 1)) = vwD (l.take i) ++ [[.own 2 (lvE l[i])]] := by rw [← zeE]; simp
   have hlen : (vwD (l.take i)).length ≤ 1048576 := by rw [zc3, List.length_take]; omega
   generalize l[i] = v at *
   repeat ((try conv => whnf); first | (with_reducible (refine z0n (fun Qs hN hE hR => ?_))) | (with_reducible (refine z0l ?_)) | (with_reducible (refine z05 (fun Qb kN kE kX kR => ?_))) | (with_reducible (refine z08 ?_)) | (with_reducible (refine z09 ?_)) | (with_reducible (refine z0m ?_)) | (with_reducible (refine z0a ?_)) | (with_reducible (refine z0b ?_)) | (with_reducible (show W _ _ _ (.cond _ _ _) _ _); refine z07 rfl ?_) | (with_reducible (refine hN _ ?_); (try clear hN hE hR Qs)) | (with_reducible (refine hE _ _ ?_); (try clear hN hE hR Qs)) | (with_reducible (refine hR _ ?_); (try clear hN hE hR Qs)) | (with_reducible (refine kN _ ?_); (try clear kN kE kX kR Qb)) | (with_reducible (refine kE _ ?_); (try clear kN kE kX kR Qb)) | (with_reducible (refine kX _ _ rfl ?_); (try clear kN kE kX kR Qb)) | (with_reducible (refine kR _ ?_); (try clear kN kE kX kR Qb)) | (refine z0t f1 ?_) | (refine i_at g ?_) | (refine ccA ([]) (c1) ?_) | (refine And.intro (by simp only [List.length_append, List.length_cons, List.length_nil]; omega) ?_) | (refine And.intro (by kernel_rfl) ?_) | (refine stpQ ?_))
   refine ⟨i + 1, hlt, by omega, ?_⟩
   rw [hnx]
   (refine z02 (by rfl) ?_ ?_) <;> (repeat' (first | (exact eqA) | (refine And.intro ?_ ?_) | ((fail_if_success (with_reducible (show _ = _))); (show _ = _)))) <;> rfl
  ·have hie : i = l.length := by omega
   subst hie
   have f1 : ¬ ((l.length : Nat) : Int) < ((l.length : Nat) : Int) := by omega
   repeat ((try conv => whnf); first | (with_reducible (refine z0n (fun Qs hN hE hR => ?_))) | (with_reducible (refine z0l ?_)) | (with_reducible (refine z05 (fun Qb kN kE kX kR => ?_))) | (with_reducible (refine z08 ?_)) | (with_reducible (refine z09 ?_)) | (with_reducible (refine z0m ?_)) | (with_reducible (refine z0a ?_)) | (with_reducible (refine z0b ?_)) | (with_reducible (show W _ _ _ (.cond _ _ _) _ _); refine z07 rfl ?_) | (with_reducible (refine hN _ ?_); (try clear hN hE hR Qs)) | (with_reducible (refine hE _ _ ?_); (try clear hN hE hR Qs)) | (with_reducible (refine hR _ ?_); (try clear hN hE hR Qs)) | (with_reducible (refine kN _ ?_); (try clear kN kE kX kR Qb)) | (with_reducible (refine kE _ ?_); (try clear kN kE kX kR Qb)) | (with_reducible (refine kX _ _ rfl ?_); (try clear kN kE kX kR Qb)) | (with_reducible (refine kR _ ?_); (try clear kN kE kX kR Qb)) | (refine z0i f1 ?_) | (refine stpQ ?_))
   rw [List.take_length]
   (refine z02 (by rfl) ?_ ?_) <;> (repeat' (first | (exact eqA) | (refine And.intro ?_ ?_) | ((fail_if_success (with_reducible (show _ = _))); (show _ = _)))) <;> rfl
 ·repeat ((try conv => whnf); first | (with_reducible (refine z0n (fun Qs hN hE hR => ?_))) | (with_reducible (refine z0l ?_)) | (with_reducible (refine z05 (fun Qb kN kE kX kR => ?_))) | (with_reducible (refine z08 ?_)) | (with_reducible (refine z09 ?_)) | (with_reducible (refine z0m ?_)) | (with_reducible (refine z0a ?_)) | (with_reducible (refine z0b ?_)) | (with_reducible (show W _ _ _ (.cond _ _ _) _ _); refine z07 rfl ?_) | (with_reducible (refine hN _ ?_); (try clear hN hE hR Qs)) | (with_reducible (refine hE _ _ ?_); (try clear hN hE hR Qs)) | (with_reducible (refine hR _ ?_); (try clear hN hE hR Qs)) | (with_reducible (refine kN _ ?_); (try clear kN kE kX kR Qb)) | (with_reducible (refine kE _ ?_); (try clear kN kE kX kR Qb)) | (with_reducible (refine kX _ _ rfl ?_); (try clear kN kE kX kR Qb)) | (with_reducible (refine kR _ ?_); (try clear kN kE kX kR Qb)) | (refine stpQ ?_))
  (refine z00 (by rfl) ?_ ?_ (by rfl)) <;> (repeat' (first | (exact eqA) | (refine And.intro ?_ ?_) | ((fail_if_success (with_reducible (show _ = _))); (show _ = _))))
theorem zeP (a K : Int) (up : Bool) (ep re rt rk : Int) (fs : List Fl) (vs : List (List Lf)) (tk : List Int) (al : List Ch) (hf : fs.length ≤ 1048576) (h : vs.length ≤ 1048576) (hv : ∀ v ∈ vs, v.length ≤ 1048576) (ht : tk.length ≤ 1048576) (ha : al.length ≤ 1048576) :
 CT Tryz.prog 84 [] [.agg [.int .i64 a, .int .i64 K, .bool up, .sl 3 (flE fs), .int .i64 ep, .sl 1 (vwE vs), .sl 1 (isE tk), .sl 3 (chE al), .int .i64 re, .int .i64 rt, .int .i64 rk]]
  (.agg [.int .i64 a, .int .i64 K, .bool up, .ref 1, .int .i64 ep, .ref 2, .ref 3, .ref 4, .int .i64 re, .int .i64 rt, .int .i64 rk]) [.deep 3 (flE fs) [], .deep 1 (vwD vs) [], .deep 1 (isE tk) [], .deep 3 (chE al) []] := by
 have c1 := z8h fs (by omega)
 have c2 := zeT vs h hv
 have e1 : (isE tk).length = tk.length := by simp [isE]
 have e2 := z2M al
 refine z01 z03 1 rfl Tryz.func84 rfl rfl rfl ?_
 conv => arg 6; whnf
 repeat ((try conv => whnf); first | (with_reducible (refine z0n (fun Qs hN hE hR => ?_))) | (with_reducible (refine z0l ?_)) | (with_reducible (refine z05 (fun Qb kN kE kX kR => ?_))) | (with_reducible (refine z08 ?_)) | (with_reducible (refine z09 ?_)) | (with_reducible (refine z0m ?_)) | (with_reducible (refine z0a ?_)) | (with_reducible (refine z0b ?_)) | (with_reducible (show W _ _ _ (.cond _ _ _) _ _); refine z07 rfl ?_) | (with_reducible (refine hN _ ?_); (try clear hN hE hR Qs)) | (with_reducible (refine hE _ _ ?_); (try clear hN hE hR Qs)) | (with_reducible (refine hR _ ?_); (try clear hN hE hR Qs)) | (with_reducible (refine kN _ ?_); (try clear kN kE kX kR Qb)) | (with_reducible (refine kE _ ?_); (try clear kN kE kX kR Qb)) | (with_reducible (refine kX _ _ rfl ?_); (try clear kN kE kX kR Qb)) | (with_reducible (refine kR _ ?_); (try clear kN kE kX kR Qb)) | (refine ccA ([]) (c1) ?_) | (refine ccA ([]) (c2) ?_) | (refine And.intro (by simp only [List.length_append, List.length_cons, List.length_nil, List.nil_append]; omega) ?_) | (refine And.intro (by kernel_rfl) ?_) | (refine stpQ ?_))
 (refine z00 (by rfl) ?_ ?_ (by rfl)) <;> (repeat' (first | (exact eqA) | (refine And.intro ?_ ?_) | ((fail_if_success (with_reducible (show _ = _))); (show _ = _)))) <;> first | rfl | exact CvE.refl (cl_fl _) | exact CvE.refl (cl_is _) | exact CvE.refl (cl_ch _)
theorem zeY (l : List (List Lf)) (h : l.length ≤ 1048576) (hz : ∀ e ∈ vwE l, Fits 1048576 (.sl 2 z2x) e) : CT Tryz.prog 80 [] [.sl 1 (vwE l)] (.ref 1) [.deep 1 (vwD l) []] := by
 have hl := zdH l
 have hl2 := zc3 l
 refine z01 z03 1 rfl Tryz.func80 rfl rfl rfl ?_
 conv => arg 6; whnf
 repeat ((try conv => whnf); first | (with_reducible (refine z0n (fun Qs hN hE hR => ?_))) | (with_reducible (refine z0l ?_)) | (with_reducible (refine z05 (fun Qb kN kE kX kR => ?_))) | (with_reducible (refine z08 ?_)) | (with_reducible (refine z09 ?_)) | (with_reducible (refine z0m ?_)) | (with_reducible (refine z0a ?_)) | (with_reducible (refine z0b ?_)) | (with_reducible (show W _ _ _ (.cond _ _ _) _ _); refine z07 rfl ?_) | (with_reducible (refine hN _ ?_); (try clear hN hE hR Qs)) | (with_reducible (refine hE _ _ ?_); (try clear hN hE hR Qs)) | (with_reducible (refine hR _ ?_); (try clear hN hE hR Qs)) | (with_reducible (refine kN _ ?_); (try clear kN kE kX kR Qb)) | (with_reducible (refine kE _ ?_); (try clear kN kE kX kR Qb)) | (with_reducible (refine kX _ _ rfl ?_); (try clear kN kE kX kR Qb)) | (with_reducible (refine kR _ ?_); (try clear kN kE kX kR Qb)) | (refine stpQ ?_))
 refine z0A 0 ⟨[(3, .ref 1)], [(1, some (.deep 1 (vwD l) []))], 2⟩ Nat (fun i => ⟨[(0, .sl 1 (vwE l)), (3, .ref 1), (4, .int .i64 (i : Int))], [(1, some (.deep 1 ((vwD l).take i ++ List.replicate ((vwE l).length - i) [.val nilV]) []))], 2⟩) (fun i => i ≤ l.length) (fun i => l.length - i) 0 (Nat.zero_le _) ?_ ?_ ?_
 ·(refine z02 (by rfl) ?_ ?_) <;> (repeat' (first | (exact eqA) | (refine And.intro ?_ ?_) | ((fail_if_success (with_reducible (show _ = _))); (show _ = _)))) <;> first | rfl | decide | exact CvE.refl (zfx _)
 ·intro i hi
  by_cases hlt : i < l.length
  ·have f1 : (i : Int) < ((vwE l).length : Int) := by omega
   have g := zfm hlt
   have hfe := hz _ (List.mem_of_getElem? g)
   obtain ⟨es, he, q1, q2⟩ := hfe
   obtain rfl : lvE l[i] = es := by injection he with he _; injection he
   have c1 := zf6 (lvE l[i]) ⟨q1, q2⟩
   have hgD : (vwD l)[i]? = some [.own 2 (lvE l[i])] := by simp [vwD, hlt]
   have hnx := z9q (zero := ([.val nilV] : List T)) hgD
   rw [hl2, ← hl] at hnx
   have hlo : ((vwD l).take i ++ List.replicate ((vwE l).length - i) ([.val nilV] : List T)).length = l.length := by rw [List.length_append, List.length_take, List.length_replicate]; omega
   have hio : ((vwD l).take i ++ List.replicate ((vwE l).length - i) ([.val nilV] : List T))[i]? = some [.val nilV] := by
    rw [List.getElem?_append_right (by rw [List.length_take]; omega), List.length_take, List.getElem?_replicate, if_pos (by omega)]
   generalize (vwD l).take i ++ List.replicate ((vwE l).length - i) ([.val nilV] : List T) = o at hnx hlo hio ⊢
   have i1 : i < o.length := by omega
   clear he q1 q2
   generalize l[i] = v at *
   repeat ((try conv => whnf); first | (with_reducible (refine z0n (fun Qs hN hE hR => ?_))) | (with_reducible (refine z0l ?_)) | (with_reducible (refine z05 (fun Qb kN kE kX kR => ?_))) | (with_reducible (refine z08 ?_)) | (with_reducible (refine z09 ?_)) | (with_reducible (refine z0m ?_)) | (with_reducible (refine z0a ?_)) | (with_reducible (refine z0b ?_)) | (with_reducible (show W _ _ _ (.cond _ _ _) _ _); refine z07 rfl ?_) | (with_reducible (refine hN _ ?_); (try clear hN hE hR Qs)) | (with_reducible (refine hE _ _ ?_); (try clear hN hE hR Qs)) | (with_reducible (refine hR _ ?_); (try clear hN hE hR Qs)) | (with_reducible (refine kN _ ?_); (try clear kN kE kX kR Qb)) | (with_reducible (refine kE _ ?_); (try clear kN kE kX kR Qb)) | (with_reducible (refine kX _ _ rfl ?_); (try clear kN kE kX kR Qb)) | (with_reducible (refine kR _ ?_); (try clear kN kE kX kR Qb)) | (refine z0t f1 ?_) | (refine And.intro i1 ?_) | (refine i_at g ?_) | (refine ccA ([]) (c1) ?_) | (refine Exists.intro _ (And.intro hio ?_)) | (refine And.intro (by kernel_rfl) ?_) | (refine stpQ ?_))
   refine ⟨i + 1, hlt, by omega, ?_⟩
   rw [← hnx]
   (refine z02 (by rfl) ?_ ?_) <;> (repeat' (first | (exact eqA) | (refine And.intro ?_ ?_) | ((fail_if_success (with_reducible (show _ = _))); (show _ = _)))) <;> rfl
  ·have hie : i = l.length := by omega
   subst hie
   have f1 : ¬ ((l.length : Nat) : Int) < ((vwE l).length : Int) := by omega
   repeat ((try conv => whnf); first | (with_reducible (refine z0n (fun Qs hN hE hR => ?_))) | (with_reducible (refine z0l ?_)) | (with_reducible (refine z05 (fun Qb kN kE kX kR => ?_))) | (with_reducible (refine z08 ?_)) | (with_reducible (refine z09 ?_)) | (with_reducible (refine z0m ?_)) | (with_reducible (refine z0a ?_)) | (with_reducible (refine z0b ?_)) | (with_reducible (show W _ _ _ (.cond _ _ _) _ _); refine z07 rfl ?_) | (with_reducible (refine hN _ ?_); (try clear hN hE hR Qs)) | (with_reducible (refine hE _ _ ?_); (try clear hN hE hR Qs)) | (with_reducible (refine hR _ ?_); (try clear hN hE hR Qs)) | (with_reducible (refine kN _ ?_); (try clear kN kE kX kR Qb)) | (with_reducible (refine kE _ ?_); (try clear kN kE kX kR Qb)) | (with_reducible (refine kX _ _ rfl ?_); (try clear kN kE kX kR Qb)) | (with_reducible (refine kR _ ?_); (try clear kN kE kX kR Qb)) | (refine z0i f1 ?_) | (refine stpQ ?_))
   rw [hl, Nat.sub_self, List.replicate_zero, List.append_nil, ← hl2, List.take_length]
   (refine z02 (by rfl) ?_ ?_) <;> (repeat' (first | (exact eqA) | (refine And.intro ?_ ?_) | ((fail_if_success (with_reducible (show _ = _))); (show _ = _)))) <;> rfl
 ·repeat ((try conv => whnf); first | (with_reducible (refine z0n (fun Qs hN hE hR => ?_))) | (with_reducible (refine z0l ?_)) | (with_reducible (refine z05 (fun Qb kN kE kX kR => ?_))) | (with_reducible (refine z08 ?_)) | (with_reducible (refine z09 ?_)) | (with_reducible (refine z0m ?_)) | (with_reducible (refine z0a ?_)) | (with_reducible (refine z0b ?_)) | (with_reducible (show W _ _ _ (.cond _ _ _) _ _); refine z07 rfl ?_) | (with_reducible (refine hN _ ?_); (try clear hN hE hR Qs)) | (with_reducible (refine hE _ _ ?_); (try clear hN hE hR Qs)) | (with_reducible (refine hR _ ?_); (try clear hN hE hR Qs)) | (with_reducible (refine kN _ ?_); (try clear kN kE kX kR Qb)) | (with_reducible (refine kE _ ?_); (try clear kN kE kX kR Qb)) | (with_reducible (refine kX _ _ rfl ?_); (try clear kN kE kX kR Qb)) | (with_reducible (refine kR _ ?_); (try clear kN kE kX kR Qb)) | (refine stpQ ?_))
  (refine z00 (by rfl) ?_ ?_ (by rfl)) <;> (repeat' (first | (exact eqA) | (refine And.intro ?_ ?_) | ((fail_if_success (with_reducible (show _ = _))); (show _ = _))))
theorem zeZ (a K : Int) (up : Bool) (ep re rt rk : Int) (fs : List Fl) (vs : List (List Lf)) (tk : List Int) (al : List Ch) (q : Fits 1048576 z2y [.int .i64 a, .int .i64 K, .bool up, .sl 3 (flE fs), .int .i64 ep, .sl 1 (vwE vs), .sl 1 (isE tk), .sl 3 (chE al), .int .i64 re, .int .i64 rt, .int .i64 rk])
 (h3 : (flE fs).length ≤ 1048576 ∧ ∀ e ∈ flE fs, Fits 1048576 z0s e) (h5 : (vwE vs).length ≤ 1048576 ∧ ∀ e ∈ vwE vs, Fits 1048576 (.sl 2 z2x) e) (h6 : (isE tk).length ≤ 1048576 ∧ ∀ e ∈ isE tk, Fits 1048576 .int e) (h7 : (chE al).length ≤ 1048576 ∧ ∀ e ∈ chE al, Fits 1048576 z1S e) :
 CT Tryz.prog 25 [] [.agg [.int .i64 a, .int .i64 K, .bool up, .sl 3 (flE fs), .int .i64 ep, .sl 1 (vwE vs), .sl 1 (isE tk), .sl 3 (chE al), .int .i64 re, .int .i64 rt, .int .i64 rk]]
  (.agg [.int .i64 a, .int .i64 K, .bool up, .ref 1, .int .i64 ep, .ref 2, .ref 3, .ref 4, .int .i64 re, .int .i64 rt, .int .i64 rk]) [.deep 3 (flE fs) [], .deep 1 (vwD vs) [], .deep 1 (isE tk) [], .deep 3 (chE al) []] := by
 have c1 := zc7 (flE fs) h3
 have c2 := zeY vs (by rw [← zdH]; exact h5.1) h5.2
 have c3 := zfe (isE tk) h6
 have c4 := zeS (chE al) h7
 have qs := q
 obtain ⟨m0, m1, m2, m3, m4, m5, m6, m7, m8, m9, m10, he, -, -, -, -, -, -, -, -, r8, r9, r10, -⟩ := z7Z qs
 have c5 := zeQ [.int .i64 re, .int .i64 rt, .int .i64 rk] (by
  simp only [List.cons.injEq, T.int.injEq, true_and, and_true] at he
  obtain ⟨_, _, _, _, _, _, _, _, e8, e9, e10⟩ := he
  subst e8 e9 e10
  exact z9e r8 r9 r10)
 refine z01 z03 1 rfl Tryz.func25 rfl rfl rfl ?_
 conv => arg 6; whnf
 repeat ((try conv => whnf); first | (with_reducible (refine z0n (fun Qs hN hE hR => ?_))) | (with_reducible (refine z0l ?_)) | (with_reducible (refine z05 (fun Qb kN kE kX kR => ?_))) | (with_reducible (refine z08 ?_)) | (with_reducible (refine z09 ?_)) | (with_reducible (refine z0m ?_)) | (with_reducible (refine z0a ?_)) | (with_reducible (refine z0b ?_)) | (with_reducible (show W _ _ _ (.cond _ _ _) _ _); refine z07 rfl ?_) | (with_reducible (refine hN _ ?_); (try clear hN hE hR Qs)) | (with_reducible (refine hE _ _ ?_); (try clear hN hE hR Qs)) | (with_reducible (refine hR _ ?_); (try clear hN hE hR Qs)) | (with_reducible (refine kN _ ?_); (try clear kN kE kX kR Qb)) | (with_reducible (refine kE _ ?_); (try clear kN kE kX kR Qb)) | (with_reducible (refine kX _ _ rfl ?_); (try clear kN kE kX kR Qb)) | (with_reducible (refine kR _ ?_); (try clear kN kE kX kR Qb)) | (refine ccA ([]) (c1) ?_) | (refine ccA ([]) (c2) ?_) | (refine ccA ([]) (c3) ?_) | (refine ccA ([]) (c4) ?_) | (refine ccA ([]) (c5) ?_) | (refine And.intro (by kernel_rfl) ?_) | (refine stpQ ?_))
 (refine z00 (by rfl) ?_ ?_ (by rfl)) <;> (repeat' (first | (exact eqA) | (refine And.intro ?_ ?_) | ((fail_if_success (with_reducible (show _ = _))); (show _ = _))))
end
end Go.Proofs.YtbcgmjdfnjmhoaaGreatDoor
