/- Functions by content: a list of events is drawn, without misbehaviour. -/
import Derived.Test.YtfgkjgfigjpkoaaDoorDrp
namespace Go.Proofs.YtfgkjgfigjpkoaaDoor
set_option maxRecDepth 100000
set_option maxHeartbeats 24000000
set_option linter.unusedVariables false
set_option linter.unusedSimpArgs false
set_option linter.unusedSectionVars false
open Go.RowKit Pl
section
attribute [local irreducible] z0t z0u z0C AnsP LeP W
theorem zbN (c : Bs) (i : Nat) (h : Int) (n : Nat) (hc : (c.length : Int) ≤ 1048576) (hi : i ≤ c.length) (hn : 0 < n ∧ n ≤ 3) (hm : 86 < 24 + c.length / 3) : ∃ (L : List Evt) (i' : Nat) (h' : Int), (∀ e ∈ L, EvG e) ∧ L.length ≤ 86 ∧ i' ≤ c.length ∧
 CT Tryd.prog 35 [curE c i h] [.ptr 1 0 0, .sl 1 (z0n c), .int .i64 (n : Int), .bool false] (.ref 2) [curE c i' h', .row 10 (evE L)] := by
 obtain ⟨x, i1, h1, kx⟩ := z1p c i h 6 hc hi (by decide)
 have hx := kx.1
 have cx := kx.2.2
 obtain ⟨L, i', h', hZ, hL, hLl, hi'⟩ := zbL c n (2 + x) (z1s c) hc hn (by omega) (z1s c) 0 i1 h1 [] (by omega) kx.2.1 (fun e he => by cases he) rfl
 refine ⟨L, i', h', hL, by have := z1d c; omega, hi', ?_⟩
 have hbl := z0J c
 have hml := z1d c
 clear hL hi' kx
 have em : z1s c = 86 := if_pos hm
 have fm : ((24 + c.length / 3 : Nat) : Int) > 86 := by omega
 refine z0d z0f 2 rfl Tryd.func35 rfl rfl rfl ?_
 conv => arg 6; whnf
 repeat ((try conv => whnf); first | (with_reducible first | refine z08 (fun Qs hN hE hR => ?_) | refine z06 ?_ | refine z00 (fun Qb kN kE kX kR => ?_) | refine z02 ?_ | refine z03 ?_ | refine z07 ?_ | refine z04 ?_ | refine z05 ?_ | (show W _ _ _ (.cond _ _ _) _ _; refine z01 rfl ?_) | (refine hN _ ?_; try clear hN hE hR Qs; (try (conv => arg 6; dsimp only [ovl, tEv, zEv, evC, List.set, List.map, ren0]))) | ((first | refine hE _ _ ?_ | refine hR _ ?_); try clear hN hE hR Qs) | ((first | refine kN _ ?_ | refine kE _ ?_ | refine kX _ _ rfl ?_ | refine kR _ ?_); try clear kN kE kX kR Qb)) | (refine Exists.intro c.length (And.intro hbl ?_)) | (refine z5j (n := nat_lit 3) (by omega) ?_) | (refine z1O (by omega) ?_) | (refine z0b fm ?_) | (refine ccB ([1]) (cx) ?_) | (refine stpQ ?_))
 rw [em] at hZ hLl hml
 clear hm em fm hbl hi hc
 refine z0A 0 ⟨[(0, .ptr 1 0 0), (9, .ref 2)], [(1, some (curE c i' h')), (2, some (.row 10 (evE L)))], 3⟩ (Nat × Nat × Int × List Evt) (fun y => ⟨[(0, .ptr 1 0 0), (2, .int .i64 (n : Int)), (3, .bool false), (9, .ref 2), (10, .int .i64 ((86 : Nat) : Int)), (11, .int .i64 ((2 + x : Nat) : Int)), (12, .ref 3), (13, .int .i64 (y.1 : Int))], [(1, some (curE c y.2.1 y.2.2.1)), (2, some (.row 10 (evE y.2.2.2))), (3, some (.row 1 (intE dk11)))], 4⟩)
  (fun y => y.1 ≤ 86 ∧ y.2.2.2.length = y.1 ∧ E0 c n (2 + x) (86) y.1 y.2.1 y.2.2.1 y.2.2.2 L i' h') (fun y => 86 - y.1) (0, i1, h1, []) ⟨by simp, rfl, hZ⟩ ?_ ?_ ?_
 ·(refine z0a (by rfl) ?_ ?_) <;> (repeat' (first | (exact eqA) | (refine And.intro ?_ ?_) | ((fail_if_success (with_reducible (show _ = _))); (show _ = _)))) <;> first | rfl | decide
 ·clear hZ cx
  intro y hy
  obtain ⟨k, ik, hk, out⟩ := y
  have hkm : k ≤ 86 := hy.1
  have hol : out.length = k := hy.2.1
  have hZ : E0 c n (2 + x) (86) k ik hk out L i' h' := hy.2.2
  clear hy
  simp only
  cases hZ with
  | stop =>
    have f1 : ¬ ((86 : Nat) : Int) < ((86 : Nat) : Int) := by omega
    repeat ((try conv => whnf); first | (with_reducible first | refine z08 (fun Qs hN hE hR => ?_) | refine z06 ?_ | refine z00 (fun Qb kN kE kX kR => ?_) | refine z02 ?_ | refine z03 ?_ | refine z07 ?_ | refine z04 ?_ | refine z05 ?_ | (show W _ _ _ (.cond _ _ _) _ _; refine z01 rfl ?_) | (refine hN _ ?_; try clear hN hE hR Qs; (try (conv => arg 6; dsimp only [ovl, tEv, zEv, evC, List.set, List.map, ren0]))) | ((first | refine hE _ _ ?_ | refine hR _ ?_); try clear hN hE hR Qs) | ((first | refine kN _ ?_ | refine kE _ ?_ | refine kX _ _ rfl ?_ | refine kR _ ?_); try clear kN kE kX kR Qb)) | (refine z0c f1 ?_) | (refine stpQ ?_))
    (refine z0a (by rfl) ?_ ?_) <;> (repeat' (first | (exact eqA) | (refine And.intro ?_ ?_) | ((fail_if_success (with_reducible (show _ = _))); (show _ = _))))
  | step hlt b1 hZ2 =>
    have f1 : (k : Int) < ((86 : Nat) : Int) := by omega
    have hoe := z0B out
    have hj := Nat.mod_lt k (show 0 < 11 by decide)
    have j1 : k % 11 < (intE dk11).length := hj
    have gj := z0y (k % 11) hj
    have h11 : (intE dk11).length = 11 := rfl
    have hk9 : k ≤ 9223372036854775807 := by omega
    cases b1 with
    | ev kb he hi2 ke =>
      have kx := kb.2.2
      have x0 : ((0 : Nat) : Int) = 0 := rfl
      repeat ((try conv => whnf); first | (with_reducible first | refine z08 (fun Qs hN hE hR => ?_) | refine z06 ?_ | refine z00 (fun Qb kN kE kX kR => ?_) | refine z02 ?_ | refine z03 ?_ | refine z07 ?_ | refine z04 ?_ | refine z05 ?_ | (show W _ _ _ (.cond _ _ _) _ _; refine z01 rfl ?_) | (refine hN _ ?_; try clear hN hE hR Qs; (try (conv => arg 6; dsimp only [ovl, tEv, zEv, evC, List.set, List.map, ren0]))) | ((first | refine hE _ _ ?_ | refine hR _ ?_); try clear hN hE hR Qs) | ((first | refine kN _ ?_ | refine kE _ ?_ | refine kX _ _ rfl ?_ | refine kR _ ?_); try clear kN kE kX kR Qb)) | (refine z0b f1 ?_) | (refine Exists.intro 11 (And.intro h11 ?_)) | (refine z0N hk9 ?_) | (refine z0L ?_) | (refine And.intro j1 ?_) | (refine Exists.intro _ (And.intro gj ?_)) | (refine ccB ([1]) (kx) ?_) | (refine z0b x0 ?_) | (refine ccB ([1]) (ke) ?_) | (refine And.intro (by simp only [List.length_append, List.length_set, List.length_replicate]; omega) ?_) | (refine And.intro (by kernel_rfl) ?_) | (refine stpQ ?_))
      refine ⟨(k + 1, _, _, _), ⟨hlt, by show (out ++ [_]).length = k + 1; rw [List.length_append, hol]; rfl, hZ2⟩, by show 86 - (k + 1) < 86 - k; omega, ?_⟩
      simp only
      rw [z0m]
      (refine z0a (by rfl) ?_ ?_) <;> (repeat' (first | (exact eqA) | (refine And.intro ?_ ?_) | ((fail_if_success (with_reducible (show _ = _))); (show _ = _)))) <;> first | rfl | (rw [q]; done) | (rw [q]; rfl)
    | tell kb hx0 k8 =>
      have kx := kb.2.2
      have q := z1E (k % 11) hj (by omega)
      have x0 : ¬ ((_ : Nat) : Int) = 0 := fun c => hx0 (Int.ofNat_inj.1 c)
      have j8 : ((k % 11 : Nat) : Int) = 8 := by omega
      repeat ((try conv => whnf); first | (with_reducible first | refine z08 (fun Qs hN hE hR => ?_) | refine z06 ?_ | refine z00 (fun Qb kN kE kX kR => ?_) | refine z02 ?_ | refine z03 ?_ | refine z07 ?_ | refine z04 ?_ | refine z05 ?_ | (show W _ _ _ (.cond _ _ _) _ _; refine z01 rfl ?_) | (refine hN _ ?_; try clear hN hE hR Qs; (try (conv => arg 6; dsimp only [ovl, tEv, zEv, evC, List.set, List.map, ren0]))) | ((first | refine hE _ _ ?_ | refine hR _ ?_); try clear hN hE hR Qs) | ((first | refine kN _ ?_ | refine kE _ ?_ | refine kX _ _ rfl ?_ | refine kR _ ?_); try clear kN kE kX kR Qb)) | (refine z0b f1 ?_) | (refine Exists.intro 11 (And.intro h11 ?_)) | (refine z0N hk9 ?_) | (refine z0L ?_) | (refine And.intro j1 ?_) | (refine Exists.intro _ (And.intro gj ?_)) | (refine ccB ([1]) (kx) ?_) | (refine z0c x0 ?_) | (refine z0b q ?_) | (refine z0b j8 ?_) | (refine And.intro (by simp only [List.length_append, List.length_set, List.length_replicate]; omega) ?_) | (refine And.intro (by kernel_rfl) ?_) | (refine stpQ ?_))
      refine ⟨(k + 1, _, _, _), ⟨hlt, by show (out ++ [_]).length = k + 1; rw [List.length_append, hol]; rfl, hZ2⟩, by show 86 - (k + 1) < 86 - k; omega, ?_⟩
      simp only
      rw [z0m]
      (refine z0a (by rfl) ?_ ?_) <;> (repeat' (first | (exact eqA) | (refine And.intro ?_ ?_) | ((fail_if_success (with_reducible (show _ = _))); (show _ = _)))) <;> first | rfl | (rw [q]; done) | (rw [q]; rfl)
    | note kb hx0 k8 =>
      have kx := kb.2.2
      have q := z1E (k % 11) hj (by omega)
      have x0 : ¬ ((_ : Nat) : Int) = 0 := fun c => hx0 (Int.ofNat_inj.1 c)
      have j8 : ¬ ((k % 11 : Nat) : Int) = 8 := by omega
      repeat ((try conv => whnf); first | (with_reducible first | refine z08 (fun Qs hN hE hR => ?_) | refine z06 ?_ | refine z00 (fun Qb kN kE kX kR => ?_) | refine z02 ?_ | refine z03 ?_ | refine z07 ?_ | refine z04 ?_ | refine z05 ?_ | (show W _ _ _ (.cond _ _ _) _ _; refine z01 rfl ?_) | (refine hN _ ?_; try clear hN hE hR Qs; (try (conv => arg 6; dsimp only [ovl, tEv, zEv, evC, List.set, List.map, ren0]))) | ((first | refine hE _ _ ?_ | refine hR _ ?_); try clear hN hE hR Qs) | ((first | refine kN _ ?_ | refine kE _ ?_ | refine kX _ _ rfl ?_ | refine kR _ ?_); try clear kN kE kX kR Qb)) | (refine z0b f1 ?_) | (refine Exists.intro 11 (And.intro h11 ?_)) | (refine z0N hk9 ?_) | (refine z0L ?_) | (refine And.intro j1 ?_) | (refine Exists.intro _ (And.intro gj ?_)) | (refine ccB ([1]) (kx) ?_) | (refine z0c x0 ?_) | (refine z0b q ?_) | (refine z0c j8 ?_) | (refine And.intro (by simp only [List.length_append, List.length_set, List.length_replicate]; omega) ?_) | (refine And.intro (by kernel_rfl) ?_) | (refine stpQ ?_))
      refine ⟨(k + 1, _, _, _), ⟨hlt, by show (out ++ [_]).length = k + 1; rw [List.length_append, hol]; rfl, hZ2⟩, by show 86 - (k + 1) < 86 - k; omega, ?_⟩
      simp only
      rw [z0m]
      (refine z0a (by rfl) ?_ ?_) <;> (repeat' (first | (exact eqA) | (refine And.intro ?_ ?_) | ((fail_if_success (with_reducible (show _ = _))); (show _ = _)))) <;> first | rfl | (rw [q]; done) | (rw [q]; rfl)
    | take kb hx0 k0 hu hi2 ku =>
      have kx := kb.2.2
      have q : dk11.getD (k % 11) 0 = 1 := by rw [k0]; rfl
      have qn : ¬ dk11.getD (k % 11) 0 = 0 := by rw [q]; decide
      have x0 : ¬ ((_ : Nat) : Int) = 0 := fun c => hx0 (Int.ofNat_inj.1 c)
      repeat ((try conv => whnf); first | (with_reducible first | refine z08 (fun Qs hN hE hR => ?_) | refine z06 ?_ | refine z00 (fun Qb kN kE kX kR => ?_) | refine z02 ?_ | refine z03 ?_ | refine z07 ?_ | refine z04 ?_ | refine z05 ?_ | (show W _ _ _ (.cond _ _ _) _ _; refine z01 rfl ?_) | (refine hN _ ?_; try clear hN hE hR Qs; (try (conv => arg 6; dsimp only [ovl, tEv, zEv, evC, List.set, List.map, ren0]))) | ((first | refine hE _ _ ?_ | refine hR _ ?_); try clear hN hE hR Qs) | ((first | refine kN _ ?_ | refine kE _ ?_ | refine kX _ _ rfl ?_ | refine kR _ ?_); try clear kN kE kX kR Qb)) | (refine z0b f1 ?_) | (refine Exists.intro 11 (And.intro h11 ?_)) | (refine z0N hk9 ?_) | (refine z0L ?_) | (refine And.intro j1 ?_) | (refine Exists.intro _ (And.intro gj ?_)) | (refine ccB ([1]) (kx) ?_) | (refine z0c x0 ?_) | (refine z0c qn ?_) | (refine z0b q ?_) | (refine ccB ([1]) (ku) ?_) | (refine And.intro (by simp only [List.length_append, List.length_set, List.length_replicate]; omega) ?_) | (refine And.intro (by kernel_rfl) ?_) | (refine stpQ ?_))
      refine ⟨(k + 1, _, _, _), ⟨hlt, by show (out ++ [_]).length = k + 1; rw [List.length_append, hol]; rfl, hZ2⟩, by show 86 - (k + 1) < 86 - k; omega, ?_⟩
      simp only
      rw [z0m]
      (refine z0a (by rfl) ?_ ?_) <;> (repeat' (first | (exact eqA) | (refine And.intro ?_ ?_) | ((fail_if_success (with_reducible (show _ = _))); (show _ = _)))) <;> first | rfl | (rw [q]; done) | (rw [q]; rfl)
    | beg kb hx0 k1 =>
      have kx := kb.2.2
      have q : dk11.getD (k % 11) 0 = 2 := by rw [k1]; rfl
      have qn : ¬ dk11.getD (k % 11) 0 = 0 := by rw [q]; decide
      have q1 : ¬ dk11.getD (k % 11) 0 = 1 := by rw [q]; decide
      have x0 : ¬ ((_ : Nat) : Int) = 0 := fun c => hx0 (Int.ofNat_inj.1 c)
      repeat ((try conv => whnf); first | (with_reducible first | refine z08 (fun Qs hN hE hR => ?_) | refine z06 ?_ | refine z00 (fun Qb kN kE kX kR => ?_) | refine z02 ?_ | refine z03 ?_ | refine z07 ?_ | refine z04 ?_ | refine z05 ?_ | (show W _ _ _ (.cond _ _ _) _ _; refine z01 rfl ?_) | (refine hN _ ?_; try clear hN hE hR Qs; (try (conv => arg 6; dsimp only [ovl, tEv, zEv, evC, List.set, List.map, ren0]))) | ((first | refine hE _ _ ?_ | refine hR _ ?_); try clear hN hE hR Qs) | ((first | refine kN _ ?_ | refine kE _ ?_ | refine kX _ _ rfl ?_ | refine kR _ ?_); try clear kN kE kX kR Qb)) | (refine z0b f1 ?_) | (refine Exists.intro 11 (And.intro h11 ?_)) | (refine z0N hk9 ?_) | (refine z0L ?_) | (refine And.intro j1 ?_) | (refine Exists.intro _ (And.intro gj ?_)) | (refine ccB ([1]) (kx) ?_) | (refine z0c x0 ?_) | (refine z0c qn ?_) | (refine z0c q1 ?_) | (refine And.intro (by simp only [List.length_append, List.length_set, List.length_replicate]; omega) ?_) | (refine And.intro (by kernel_rfl) ?_) | (refine stpQ ?_))
      refine ⟨(k + 1, _, _, _), ⟨hlt, by show (out ++ [_]).length = k + 1; rw [List.length_append, hol]; rfl, hZ2⟩, by show 86 - (k + 1) < 86 - k; omega, ?_⟩
      simp only
      rw [z0m]
      (refine z0a (by rfl) ?_ ?_) <;> (repeat' (first | (exact eqA) | (refine And.intro ?_ ?_) | ((fail_if_success (with_reducible (show _ = _))); (show _ = _)))) <;> first | rfl | (rw [q]; done) | (rw [q]; rfl)
    | car kb hx0 k2 k7 =>
      have kx := kb.2.2
      have q := z3X (k % 11) hj k2 k7
      have qn : ¬ dk11.getD (k % 11) 0 = 0 := by rw [q]; decide
      have q1 : ¬ dk11.getD (k % 11) 0 = 1 := by rw [q]; decide
      have x0 : ¬ ((_ : Nat) : Int) = 0 := fun c => hx0 (Int.ofNat_inj.1 c)
      repeat ((try conv => whnf); first | (with_reducible first | refine z08 (fun Qs hN hE hR => ?_) | refine z06 ?_ | refine z00 (fun Qb kN kE kX kR => ?_) | refine z02 ?_ | refine z03 ?_ | refine z07 ?_ | refine z04 ?_ | refine z05 ?_ | (show W _ _ _ (.cond _ _ _) _ _; refine z01 rfl ?_) | (refine hN _ ?_; try clear hN hE hR Qs; (try (conv => arg 6; dsimp only [ovl, tEv, zEv, evC, List.set, List.map, ren0]))) | ((first | refine hE _ _ ?_ | refine hR _ ?_); try clear hN hE hR Qs) | ((first | refine kN _ ?_ | refine kE _ ?_ | refine kX _ _ rfl ?_ | refine kR _ ?_); try clear kN kE kX kR Qb)) | (refine z0b f1 ?_) | (refine Exists.intro 11 (And.intro h11 ?_)) | (refine z0N hk9 ?_) | (refine z0L ?_) | (refine And.intro j1 ?_) | (refine Exists.intro _ (And.intro gj ?_)) | (refine ccB ([1]) (kx) ?_) | (refine z0c x0 ?_) | (refine z0c qn ?_) | (refine z0c q1 ?_) | (refine And.intro (by simp only [List.length_append, List.length_set, List.length_replicate]; omega) ?_) | (refine And.intro (by kernel_rfl) ?_) | (refine stpQ ?_))
      refine ⟨(k + 1, _, _, _), ⟨hlt, by show (out ++ [_]).length = k + 1; rw [List.length_append, hol]; rfl, hZ2⟩, by show 86 - (k + 1) < 86 - k; omega, ?_⟩
      simp only
      rw [z0m]
      (refine z0a (by rfl) ?_ ?_) <;> (repeat' (first | (exact eqA) | (refine And.intro ?_ ?_) | ((fail_if_success (with_reducible (show _ = _))); (show _ = _)))) <;> first | rfl | (rw [q]; done) | (rw [q]; rfl)
 ·repeat ((try conv => whnf); first | (with_reducible first | refine z08 (fun Qs hN hE hR => ?_) | refine z06 ?_ | refine z00 (fun Qb kN kE kX kR => ?_) | refine z02 ?_ | refine z03 ?_ | refine z07 ?_ | refine z04 ?_ | refine z05 ?_ | (show W _ _ _ (.cond _ _ _) _ _; refine z01 rfl ?_) | (refine hN _ ?_; try clear hN hE hR Qs; (try (conv => arg 6; dsimp only [ovl, tEv, zEv, evC, List.set, List.map, ren0]))) | ((first | refine hE _ _ ?_ | refine hR _ ?_); try clear hN hE hR Qs) | ((first | refine kN _ ?_ | refine kE _ ?_ | refine kX _ _ rfl ?_ | refine kR _ ?_); try clear kN kE kX kR Qb)) | (refine stpQ ?_))
  (refine z09 (by rfl) ?_ ?_ (by rfl)) <;> (repeat' (first | (exact eqA) | (refine And.intro ?_ ?_) | ((fail_if_success (with_reducible (show _ = _))); (show _ = _))))
theorem zbO (c : Bs) (i : Nat) (h : Int) (n : Nat) (hc : (c.length : Int) ≤ 1048576) (hi : i ≤ c.length) (hn : 0 < n ∧ n ≤ 3) (hm : ¬ 86 < 24 + c.length / 3) : ∃ (L : List Evt) (i' : Nat) (h' : Int), (∀ e ∈ L, EvG e) ∧ L.length ≤ 86 ∧ i' ≤ c.length ∧
 CT Tryd.prog 35 [curE c i h] [.ptr 1 0 0, .sl 1 (z0n c), .int .i64 (n : Int), .bool false] (.ref 2) [curE c i' h', .row 10 (evE L)] := by
 obtain ⟨x, i1, h1, kx⟩ := z1p c i h 6 hc hi (by decide)
 have hx := kx.1
 have cx := kx.2.2
 obtain ⟨L, i', h', hZ, hL, hLl, hi'⟩ := zbL c n (2 + x) (z1s c) hc hn (by omega) (z1s c) 0 i1 h1 [] (by omega) kx.2.1 (fun e he => by cases he) rfl
 refine ⟨L, i', h', hL, by have := z1d c; omega, hi', ?_⟩
 have hbl := z0J c
 have hml := z1d c
 clear hL hi' kx
 have em : z1s c = 24 + c.length / 3 := if_neg hm
 have fm : ¬ ((24 + c.length / 3 : Nat) : Int) > 86 := by omega
 refine z0d z0f 2 rfl Tryd.func35 rfl rfl rfl ?_
 conv => arg 6; whnf
 repeat ((try conv => whnf); first | (with_reducible first | refine z08 (fun Qs hN hE hR => ?_) | refine z06 ?_ | refine z00 (fun Qb kN kE kX kR => ?_) | refine z02 ?_ | refine z03 ?_ | refine z07 ?_ | refine z04 ?_ | refine z05 ?_ | (show W _ _ _ (.cond _ _ _) _ _; refine z01 rfl ?_) | (refine hN _ ?_; try clear hN hE hR Qs; (try (conv => arg 6; dsimp only [ovl, tEv, zEv, evC, List.set, List.map, ren0]))) | ((first | refine hE _ _ ?_ | refine hR _ ?_); try clear hN hE hR Qs) | ((first | refine kN _ ?_ | refine kE _ ?_ | refine kX _ _ rfl ?_ | refine kR _ ?_); try clear kN kE kX kR Qb)) | (refine Exists.intro c.length (And.intro hbl ?_)) | (refine z5j (n := nat_lit 3) (by omega) ?_) | (refine z1O (by omega) ?_) | (refine z0c fm ?_) | (refine ccB ([1]) (cx) ?_) | (refine stpQ ?_))
 rw [em] at hZ hLl hml
 clear hm em fm hbl hi hc
 generalize hmm : 24 + c.length / 3 = m at *
 clear hmm
 refine z0A 0 ⟨[(0, .ptr 1 0 0), (9, .ref 2)], [(1, some (curE c i' h')), (2, some (.row 10 (evE L)))], 3⟩ (Nat × Nat × Int × List Evt) (fun y => ⟨[(0, .ptr 1 0 0), (2, .int .i64 (n : Int)), (3, .bool false), (9, .ref 2), (10, .int .i64 ((m : Nat) : Int)), (11, .int .i64 ((2 + x : Nat) : Int)), (12, .ref 3), (13, .int .i64 (y.1 : Int))], [(1, some (curE c y.2.1 y.2.2.1)), (2, some (.row 10 (evE y.2.2.2))), (3, some (.row 1 (intE dk11)))], 4⟩)
  (fun y => y.1 ≤ m ∧ y.2.2.2.length = y.1 ∧ E0 c n (2 + x) (m) y.1 y.2.1 y.2.2.1 y.2.2.2 L i' h') (fun y => m - y.1) (0, i1, h1, []) ⟨by simp, rfl, hZ⟩ ?_ ?_ ?_
 ·(refine z0a (by rfl) ?_ ?_) <;> (repeat' (first | (exact eqA) | (refine And.intro ?_ ?_) | ((fail_if_success (with_reducible (show _ = _))); (show _ = _)))) <;> first | rfl | decide
 ·clear hZ cx
  intro y hy
  obtain ⟨k, ik, hk, out⟩ := y
  have hkm : k ≤ m := hy.1
  have hol : out.length = k := hy.2.1
  have hZ : E0 c n (2 + x) (m) k ik hk out L i' h' := hy.2.2
  clear hy
  simp only
  cases hZ with
  | stop =>
    have f1 : ¬ ((m : Nat) : Int) < ((m : Nat) : Int) := by omega
    repeat ((try conv => whnf); first | (with_reducible first | refine z08 (fun Qs hN hE hR => ?_) | refine z06 ?_ | refine z00 (fun Qb kN kE kX kR => ?_) | refine z02 ?_ | refine z03 ?_ | refine z07 ?_ | refine z04 ?_ | refine z05 ?_ | (show W _ _ _ (.cond _ _ _) _ _; refine z01 rfl ?_) | (refine hN _ ?_; try clear hN hE hR Qs; (try (conv => arg 6; dsimp only [ovl, tEv, zEv, evC, List.set, List.map, ren0]))) | ((first | refine hE _ _ ?_ | refine hR _ ?_); try clear hN hE hR Qs) | ((first | refine kN _ ?_ | refine kE _ ?_ | refine kX _ _ rfl ?_ | refine kR _ ?_); try clear kN kE kX kR Qb)) | (refine z0c f1 ?_) | (refine stpQ ?_))
    (refine z0a (by rfl) ?_ ?_) <;> (repeat' (first | (exact eqA) | (refine And.intro ?_ ?_) | ((fail_if_success (with_reducible (show _ = _))); (show _ = _))))
  | step hlt b1 hZ2 =>
    have f1 : (k : Int) < ((m : Nat) : Int) := by omega
    have hoe := z0B out
    have hj := Nat.mod_lt k (show 0 < 11 by decide)
    have j1 : k % 11 < (intE dk11).length := hj
    have gj := z0y (k % 11) hj
    have h11 : (intE dk11).length = 11 := rfl
    have hk9 : k ≤ 9223372036854775807 := by omega
    cases b1 with
    | ev kb he hi2 ke =>
      have kx := kb.2.2
      have x0 : ((0 : Nat) : Int) = 0 := rfl
      repeat ((try conv => whnf); first | (with_reducible first | refine z08 (fun Qs hN hE hR => ?_) | refine z06 ?_ | refine z00 (fun Qb kN kE kX kR => ?_) | refine z02 ?_ | refine z03 ?_ | refine z07 ?_ | refine z04 ?_ | refine z05 ?_ | (show W _ _ _ (.cond _ _ _) _ _; refine z01 rfl ?_) | (refine hN _ ?_; try clear hN hE hR Qs; (try (conv => arg 6; dsimp only [ovl, tEv, zEv, evC, List.set, List.map, ren0]))) | ((first | refine hE _ _ ?_ | refine hR _ ?_); try clear hN hE hR Qs) | ((first | refine kN _ ?_ | refine kE _ ?_ | refine kX _ _ rfl ?_ | refine kR _ ?_); try clear kN kE kX kR Qb)) | (refine z0b f1 ?_) | (refine Exists.intro 11 (And.intro h11 ?_)) | (refine z0N hk9 ?_) | (refine z0L ?_) | (refine And.intro j1 ?_) | (refine Exists.intro _ (And.intro gj ?_)) | (refine ccB ([1]) (kx) ?_) | (refine z0b x0 ?_) | (refine ccB ([1]) (ke) ?_) | (refine And.intro (by simp only [List.length_append, List.length_set, List.length_replicate]; omega) ?_) | (refine And.intro (by kernel_rfl) ?_) | (refine stpQ ?_))
      refine ⟨(k + 1, _, _, _), ⟨hlt, by show (out ++ [_]).length = k + 1; rw [List.length_append, hol]; rfl, hZ2⟩, by show m - (k + 1) < m - k; omega, ?_⟩
      simp only
      rw [z0m]
      (refine z0a (by rfl) ?_ ?_) <;> (repeat' (first | (exact eqA) | (refine And.intro ?_ ?_) | ((fail_if_success (with_reducible (show _ = _))); (show _ = _)))) <;> first | rfl | (rw [q]; done) | (rw [q]; rfl)
    | tell kb hx0 k8 =>
      have kx := kb.2.2
      have q := z1E (k % 11) hj (by omega)
      have x0 : ¬ ((_ : Nat) : Int) = 0 := fun c => hx0 (Int.ofNat_inj.1 c)
      have j8 : ((k % 11 : Nat) : Int) = 8 := by omega
      repeat ((try conv => whnf); first | (with_reducible first | refine z08 (fun Qs hN hE hR => ?_) | refine z06 ?_ | refine z00 (fun Qb kN kE kX kR => ?_) | refine z02 ?_ | refine z03 ?_ | refine z07 ?_ | refine z04 ?_ | refine z05 ?_ | (show W _ _ _ (.cond _ _ _) _ _; refine z01 rfl ?_) | (refine hN _ ?_; try clear hN hE hR Qs; (try (conv => arg 6; dsimp only [ovl, tEv, zEv, evC, List.set, List.map, ren0]))) | ((first | refine hE _ _ ?_ | refine hR _ ?_); try clear hN hE hR Qs) | ((first | refine kN _ ?_ | refine kE _ ?_ | refine kX _ _ rfl ?_ | refine kR _ ?_); try clear kN kE kX kR Qb)) | (refine z0b f1 ?_) | (refine Exists.intro 11 (And.intro h11 ?_)) | (refine z0N hk9 ?_) | (refine z0L ?_) | (refine And.intro j1 ?_) | (refine Exists.intro _ (And.intro gj ?_)) | (refine ccB ([1]) (kx) ?_) | (refine z0c x0 ?_) | (refine z0b q ?_) | (refine z0b j8 ?_) | (refine And.intro (by simp only [List.length_append, List.length_set, List.length_replicate]; omega) ?_) | (refine And.intro (by kernel_rfl) ?_) | (refine stpQ ?_))
      refine ⟨(k + 1, _, _, _), ⟨hlt, by show (out ++ [_]).length = k + 1; rw [List.length_append, hol]; rfl, hZ2⟩, by show m - (k + 1) < m - k; omega, ?_⟩
      simp only
      rw [z0m]
      (refine z0a (by rfl) ?_ ?_) <;> (repeat' (first | (exact eqA) | (refine And.intro ?_ ?_) | ((fail_if_success (with_reducible (show _ = _))); (show _ = _)))) <;> first | rfl | (rw [q]; done) | (rw [q]; rfl)
    | note kb hx0 k8 =>
      have kx := kb.2.2
      have q := z1E (k % 11) hj (by omega)
      have x0 : ¬ ((_ : Nat) : Int) = 0 := fun c => hx0 (Int.ofNat_inj.1 c)
      have j8 : ¬ ((k % 11 : Nat) : Int) = 8 := by omega
      repeat ((try conv => whnf); first | (with_reducible first | refine z08 (fun Qs hN hE hR => ?_) | refine z06 ?_ | refine z00 (fun Qb kN kE kX kR => ?_) | refine z02 ?_ | refine z03 ?_ | refine z07 ?_ | refine z04 ?_ | refine z05 ?_ | (show W _ _ _ (.cond _ _ _) _ _; refine z01 rfl ?_) | (refine hN _ ?_; try clear hN hE hR Qs; (try (conv => arg 6; dsimp only [ovl, tEv, zEv, evC, List.set, List.map, ren0]))) | ((first | refine hE _ _ ?_ | refine hR _ ?_); try clear hN hE hR Qs) | ((first | refine kN _ ?_ | refine kE _ ?_ | refine kX _ _ rfl ?_ | refine kR _ ?_); try clear kN kE kX kR Qb)) | (refine z0b f1 ?_) | (refine Exists.intro 11 (And.intro h11 ?_)) | (refine z0N hk9 ?_) | (refine z0L ?_) | (refine And.intro j1 ?_) | (refine Exists.intro _ (And.intro gj ?_)) | (refine ccB ([1]) (kx) ?_) | (refine z0c x0 ?_) | (refine z0b q ?_) | (refine z0c j8 ?_) | (refine And.intro (by simp only [List.length_append, List.length_set, List.length_replicate]; omega) ?_) | (refine And.intro (by kernel_rfl) ?_) | (refine stpQ ?_))
      refine ⟨(k + 1, _, _, _), ⟨hlt, by show (out ++ [_]).length = k + 1; rw [List.length_append, hol]; rfl, hZ2⟩, by show m - (k + 1) < m - k; omega, ?_⟩
      simp only
      rw [z0m]
      (refine z0a (by rfl) ?_ ?_) <;> (repeat' (first | (exact eqA) | (refine And.intro ?_ ?_) | ((fail_if_success (with_reducible (show _ = _))); (show _ = _)))) <;> first | rfl | (rw [q]; done) | (rw [q]; rfl)
    | take kb hx0 k0 hu hi2 ku =>
      have kx := kb.2.2
      have q : dk11.getD (k % 11) 0 = 1 := by rw [k0]; rfl
      have qn : ¬ dk11.getD (k % 11) 0 = 0 := by rw [q]; decide
      have x0 : ¬ ((_ : Nat) : Int) = 0 := fun c => hx0 (Int.ofNat_inj.1 c)
      repeat ((try conv => whnf); first | (with_reducible first | refine z08 (fun Qs hN hE hR => ?_) | refine z06 ?_ | refine z00 (fun Qb kN kE kX kR => ?_) | refine z02 ?_ | refine z03 ?_ | refine z07 ?_ | refine z04 ?_ | refine z05 ?_ | (show W _ _ _ (.cond _ _ _) _ _; refine z01 rfl ?_) | (refine hN _ ?_; try clear hN hE hR Qs; (try (conv => arg 6; dsimp only [ovl, tEv, zEv, evC, List.set, List.map, ren0]))) | ((first | refine hE _ _ ?_ | refine hR _ ?_); try clear hN hE hR Qs) | ((first | refine kN _ ?_ | refine kE _ ?_ | refine kX _ _ rfl ?_ | refine kR _ ?_); try clear kN kE kX kR Qb)) | (refine z0b f1 ?_) | (refine Exists.intro 11 (And.intro h11 ?_)) | (refine z0N hk9 ?_) | (refine z0L ?_) | (refine And.intro j1 ?_) | (refine Exists.intro _ (And.intro gj ?_)) | (refine ccB ([1]) (kx) ?_) | (refine z0c x0 ?_) | (refine z0c qn ?_) | (refine z0b q ?_) | (refine ccB ([1]) (ku) ?_) | (refine And.intro (by simp only [List.length_append, List.length_set, List.length_replicate]; omega) ?_) | (refine And.intro (by kernel_rfl) ?_) | (refine stpQ ?_))
      refine ⟨(k + 1, _, _, _), ⟨hlt, by show (out ++ [_]).length = k + 1; rw [List.length_append, hol]; rfl, hZ2⟩, by show m - (k + 1) < m - k; omega, ?_⟩
      simp only
      rw [z0m]
      (refine z0a (by rfl) ?_ ?_) <;> (repeat' (first | (exact eqA) | (refine And.intro ?_ ?_) | ((fail_if_success (with_reducible (show _ = _))); (show _ = _)))) <;> first | rfl | (rw [q]; done) | (rw [q]; rfl)
    | beg kb hx0 k1 =>
      have kx := kb.2.2
      have q : dk11.getD (k % 11) 0 = 2 := by rw [k1]; rfl
      have qn : ¬ dk11.getD (k % 11) 0 = 0 := by rw [q]; decide
      have q1 : ¬ dk11.getD (k % 11) 0 = 1 := by rw [q]; decide
      have x0 : ¬ ((_ : Nat) : Int) = 0 := fun c => hx0 (Int.ofNat_inj.1 c)
      repeat ((try conv => whnf); first | (with_reducible first | refine z08 (fun Qs hN hE hR => ?_) | refine z06 ?_ | refine z00 (fun Qb kN kE kX kR => ?_) | refine z02 ?_ | refine z03 ?_ | refine z07 ?_ | refine z04 ?_ | refine z05 ?_ | (show W _ _ _ (.cond _ _ _) _ _; refine z01 rfl ?_) | (refine hN _ ?_; try clear hN hE hR Qs; (try (conv => arg 6; dsimp only [ovl, tEv, zEv, evC, List.set, List.map, ren0]))) | ((first | refine hE _ _ ?_ | refine hR _ ?_); try clear hN hE hR Qs) | ((first | refine kN _ ?_ | refine kE _ ?_ | refine kX _ _ rfl ?_ | refine kR _ ?_); try clear kN kE kX kR Qb)) | (refine z0b f1 ?_) | (refine Exists.intro 11 (And.intro h11 ?_)) | (refine z0N hk9 ?_) | (refine z0L ?_) | (refine And.intro j1 ?_) | (refine Exists.intro _ (And.intro gj ?_)) | (refine ccB ([1]) (kx) ?_) | (refine z0c x0 ?_) | (refine z0c qn ?_) | (refine z0c q1 ?_) | (refine And.intro (by simp only [List.length_append, List.length_set, List.length_replicate]; omega) ?_) | (refine And.intro (by kernel_rfl) ?_) | (refine stpQ ?_))
      refine ⟨(k + 1, _, _, _), ⟨hlt, by show (out ++ [_]).length = k + 1; rw [List.length_append, hol]; rfl, hZ2⟩, by show m - (k + 1) < m - k; omega, ?_⟩
      simp only
      rw [z0m]
      (refine z0a (by rfl) ?_ ?_) <;> (repeat' (first | (exact eqA) | (refine And.intro ?_ ?_) | ((fail_if_success (with_reducible (show _ = _))); (show _ = _)))) <;> first | rfl | (rw [q]; done) | (rw [q]; rfl)
    | car kb hx0 k2 k7 =>
      have kx := kb.2.2
      have q := z3X (k % 11) hj k2 k7
      have qn : ¬ dk11.getD (k % 11) 0 = 0 := by rw [q]; decide
      have q1 : ¬ dk11.getD (k % 11) 0 = 1 := by rw [q]; decide
      have x0 : ¬ ((_ : Nat) : Int) = 0 := fun c => hx0 (Int.ofNat_inj.1 c)
      repeat ((try conv => whnf); first | (with_reducible first | refine z08 (fun Qs hN hE hR => ?_) | refine z06 ?_ | refine z00 (fun Qb kN kE kX kR => ?_) | refine z02 ?_ | refine z03 ?_ | refine z07 ?_ | refine z04 ?_ | refine z05 ?_ | (show W _ _ _ (.cond _ _ _) _ _; refine z01 rfl ?_) | (refine hN _ ?_; try clear hN hE hR Qs; (try (conv => arg 6; dsimp only [ovl, tEv, zEv, evC, List.set, List.map, ren0]))) | ((first | refine hE _ _ ?_ | refine hR _ ?_); try clear hN hE hR Qs) | ((first | refine kN _ ?_ | refine kE _ ?_ | refine kX _ _ rfl ?_ | refine kR _ ?_); try clear kN kE kX kR Qb)) | (refine z0b f1 ?_) | (refine Exists.intro 11 (And.intro h11 ?_)) | (refine z0N hk9 ?_) | (refine z0L ?_) | (refine And.intro j1 ?_) | (refine Exists.intro _ (And.intro gj ?_)) | (refine ccB ([1]) (kx) ?_) | (refine z0c x0 ?_) | (refine z0c qn ?_) | (refine z0c q1 ?_) | (refine And.intro (by simp only [List.length_append, List.length_set, List.length_replicate]; omega) ?_) | (refine And.intro (by kernel_rfl) ?_) | (refine stpQ ?_))
      refine ⟨(k + 1, _, _, _), ⟨hlt, by show (out ++ [_]).length = k + 1; rw [List.length_append, hol]; rfl, hZ2⟩, by show m - (k + 1) < m - k; omega, ?_⟩
      simp only
      rw [z0m]
      (refine z0a (by rfl) ?_ ?_) <;> (repeat' (first | (exact eqA) | (refine And.intro ?_ ?_) | ((fail_if_success (with_reducible (show _ = _))); (show _ = _)))) <;> first | rfl | (rw [q]; done) | (rw [q]; rfl)
 ·repeat ((try conv => whnf); first | (with_reducible first | refine z08 (fun Qs hN hE hR => ?_) | refine z06 ?_ | refine z00 (fun Qb kN kE kX kR => ?_) | refine z02 ?_ | refine z03 ?_ | refine z07 ?_ | refine z04 ?_ | refine z05 ?_ | (show W _ _ _ (.cond _ _ _) _ _; refine z01 rfl ?_) | (refine hN _ ?_; try clear hN hE hR Qs; (try (conv => arg 6; dsimp only [ovl, tEv, zEv, evC, List.set, List.map, ren0]))) | ((first | refine hE _ _ ?_ | refine hR _ ?_); try clear hN hE hR Qs) | ((first | refine kN _ ?_ | refine kE _ ?_ | refine kX _ _ rfl ?_ | refine kR _ ?_); try clear kN kE kX kR Qb)) | (refine stpQ ?_))
  (refine z09 (by rfl) ?_ ?_ (by rfl)) <;> (repeat' (first | (exact eqA) | (refine And.intro ?_ ?_) | ((fail_if_success (with_reducible (show _ = _))); (show _ = _))))
theorem c_evsN (c : Bs) (i : Nat) (h : Int) (n : Nat) (hc : (c.length : Int) ≤ 1048576) (hi : i ≤ c.length) (hn : 0 < n ∧ n ≤ 3) : ∃ (L : List Evt) (i' : Nat) (h' : Int), (∀ e ∈ L, EvG e) ∧ L.length ≤ 86 ∧ i' ≤ c.length ∧
 CT Tryd.prog 35 [curE c i h] [.ptr 1 0 0, .sl 1 (z0n c), .int .i64 (n : Int), .bool false] (.ref 2) [curE c i' h', .row 10 (evE L)] := by
 by_cases hm : 86 < 24 + c.length / 3
 ·exact zbN c i h n hc hi hn hm
 ·exact zbO c i h n hc hi hn hm
end
end Go.Proofs.YtfgkjgfigjpkoaaDoor
