/- Functions by content: a list of events is drawn, with misbehaviour. -/
import Derived.Test.YtfgkjgfigjpkoaaDoorDrk
import Derived.Test.YtfgkjgfigjpkoaaDoorDrka
import Derived.Test.YtfgkjgfigjpkoaaDoorDrv
import Derived.Test.YtfgkjgfigjpkoaaDoorDrva
namespace Go.Proofs.YtfgkjgfigjpkoaaDoor
set_option maxRecDepth 100000
set_option maxHeartbeats 40000000
set_option linter.unusedVariables false
set_option linter.unusedSimpArgs false
set_option linter.unusedSectionVars false
open Go.RowKit Pl
section
attribute [local irreducible] z0t z0u z0C AnsP LeP W
theorem zbP (c : Bs) (i : Nat) (h : Int) (n : Nat) (hc : (c.length : Int) ≤ 1048576) (hi : i ≤ c.length) (hn : 0 < n ∧ n ≤ 3) (hm : 86 < 24 + c.length / 3) : ∃ (L : List Evt) (i' : Nat) (h' : Int), (∀ e ∈ L, EvG e) ∧ L.length ≤ 86 ∧ i' ≤ c.length ∧
 CT Tryd.prog 35 [curE c i h] [.ptr 1 0 0, .sl 1 (z0n c), .int .i64 (n : Int), .bool true] (.ref 2) [curE c i' h', .row 10 (evE L)] := by
 obtain ⟨x, i1, h1, kx⟩ := z1p c i h 6 hc hi (by decide)
 have hx := kx.1
 have cx := kx.2.2
 obtain ⟨L, i', h', hZ, hL, hLl, hi'⟩ := zbM c n (2 + x) (z1s c) hc hn (by omega) (z1s c) 0 i1 h1 [] (by omega) kx.2.1 (fun e he => by cases he) rfl
 refine ⟨L, i', h', hL, by have := z1d c; omega, hi', ?_⟩
 have hbl := z0J c
 have hml := z1d c
 clear hL hi' kx
 have em : z1s c = 86 := if_pos hm
 have fm : ((24 + c.length / 3 : Nat) : Int) > 86 := by omega
 refine z0d z0f 2 rfl Tryd.func35 rfl rfl rfl ?_
 conv => arg 6; whnf
 repeat ((try conv => whnf); first | (with_reducible first | refine z08 (fun Qs hN hE hR => ?_) | refine z06 ?_ | refine z00 (fun Qb kN kE kX kR => ?_) | refine z02 ?_ | refine z03 ?_ | refine z07 ?_ | refine z04 ?_ | refine z05 ?_ | (show W _ _ _ (.cond _ _ _) _ _; refine z01 rfl ?_) | (refine hN _ ?_; try clear hN hE hR Qs) | ((first | refine hE _ _ ?_ | refine hR _ ?_); try clear hN hE hR Qs) | ((first | refine kN _ ?_ | refine kE _ ?_ | refine kX _ _ rfl ?_ | refine kR _ ?_); try clear kN kE kX kR Qb)) | (refine Exists.intro c.length (And.intro hbl ?_)) | (refine z5j (n := nat_lit 3) (by omega) ?_) | (refine z1O (by omega) ?_) | (refine z0b fm ?_) | (refine ccB ([1]) (cx) ?_) | (refine stpQ ?_))
 rw [em] at hZ hLl hml
 clear hm em fm hbl hi hc
 refine z0A 0 ⟨[(0, .ptr 1 0 0), (9, .ref 2)], [(1, some (curE c i' h')), (2, some (.row 10 (evE L)))], 3⟩ (Nat × Nat × Int × List Evt) (fun y => ⟨[(0, .ptr 1 0 0), (2, .int .i64 (n : Int)), (3, .bool true), (9, .ref 2), (10, .int .i64 ((86 : Nat) : Int)), (11, .int .i64 ((2 + x : Nat) : Int)), (12, .ref 3), (13, .int .i64 (y.1 : Int))], [(1, some (curE c y.2.1 y.2.2.1)), (2, some (.row 10 (evE y.2.2.2))), (3, some (.row 1 (intE dk11)))], 4⟩)
  (fun y => y.1 ≤ 86 ∧ y.2.2.2.length = y.1 ∧ E1 c n (2 + x) (86) y.1 y.2.1 y.2.2.1 y.2.2.2 L i' h') (fun y => 86 - y.1) (0, i1, h1, []) ⟨by simp, rfl, hZ⟩ ?_ ?_ ?_
 ·(refine z0a (by rfl) ?_ ?_) <;> (repeat' (first | (exact eqA) | (refine And.intro ?_ ?_) | ((fail_if_success (with_reducible (show _ = _))); (show _ = _)))) <;> first | rfl | decide
 ·clear hZ cx
  intro y hy
  obtain ⟨k, ik, hk, out⟩ := y
  have hkm : k ≤ 86 := hy.1
  have hol : out.length = k := hy.2.1
  have hZ : E1 c n (2 + x) (86) k ik hk out L i' h' := hy.2.2
  clear hy
  simp only
  cases hZ with
  | stop =>
    have f1 : ¬ ((86 : Nat) : Int) < ((86 : Nat) : Int) := by omega
    repeat ((try conv => whnf); first | (with_reducible first | refine z08 (fun Qs hN hE hR => ?_) | refine z06 ?_ | refine z00 (fun Qb kN kE kX kR => ?_) | refine z02 ?_ | refine z03 ?_ | refine z07 ?_ | refine z04 ?_ | refine z05 ?_ | (show W _ _ _ (.cond _ _ _) _ _; refine z01 rfl ?_) | (refine hN _ ?_; try clear hN hE hR Qs) | ((first | refine hE _ _ ?_ | refine hR _ ?_); try clear hN hE hR Qs) | ((first | refine kN _ ?_ | refine kE _ ?_ | refine kX _ _ rfl ?_ | refine kR _ ?_); try clear kN kE kX kR Qb)) | (refine z0c f1 ?_) | (refine stpQ ?_))
    (refine z0a (by rfl) ?_ ?_) <;> (repeat' (first | (exact eqA) | (refine And.intro ?_ ?_) | ((fail_if_success (with_reducible (show _ = _))); (show _ = _))))
  | step hlt b1 b2 b3 hZ2 =>
    have last : ∀ (e3 : Evt) (i3 : Nat) (h3 : Int), E1 c n (2 + x) (86) (k + 1) i3 h3 (out ++ [e3]) L i' h' → ∀ S1, LeP 2 S1 ⟨[(0, .ptr 1 0 0), (2, .int .i64 (n : Int)), (3, .bool true), (9, .ref 2), (10, .int .i64 ((86 : Nat) : Int)), (11, .int .i64 ((2 + x : Nat) : Int)), (12, .ref 3), (13, .int .i64 ((k + 1 : Nat) : Int))], [(1, some (curE c i3 h3)), (2, some (.row 10 (evE (out ++ [e3])))), (3, some (.row 1 (intE dk11)))], 4⟩ →
     ∃ y' : Nat × Nat × Int × List Evt, (y'.1 ≤ 86 ∧ y'.2.2.2.length = y'.1 ∧ E1 c n (2 + x) (86) y'.1 y'.2.1 y'.2.2.1 y'.2.2.2 L i' h') ∧ 86 - y'.1 < 86 - k ∧ LeP 2 S1 ⟨[(0, .ptr 1 0 0), (2, .int .i64 (n : Int)), (3, .bool true), (9, .ref 2), (10, .int .i64 ((86 : Nat) : Int)), (11, .int .i64 ((2 + x : Nat) : Int)), (12, .ref 3), (13, .int .i64 (y'.1 : Int))], [(1, some (curE c y'.2.1 y'.2.2.1)), (2, some (.row 10 (evE y'.2.2.2))), (3, some (.row 1 (intE dk11)))], 4⟩ := fun e3 i3 h3 hZ S1 hS => ⟨(k + 1, i3, h3, out ++ [e3]), ⟨hlt, by show (out ++ [_]).length = k + 1; rw [List.length_append, hol]; rfl, hZ⟩, by show 86 - (k + 1) < 86 - k; omega, hS⟩
    cases b1 with
    | ev kb he hi2 ke =>
      cases b2 with
      | no o2 =>
        cases b3 with
        | no o3 => exact z6S _ c n (2 + x) 86 k ik hk out hn (by omega) hlt hol kb ke o2 o3 (last _ _ _ hZ2)
        | yes o3 b31 t3 => exact z6T _ c n (2 + x) 86 k ik hk out hn (by omega) hlt hol kb ke o2 o3 b31 t3 (last _ _ _ hZ2)
      | yes o2 b21 b22 t2 =>
        cases b3 with
        | no o3 => exact z6U _ c n (2 + x) 86 k ik hk out hn (by omega) hlt hol kb ke o2 b21 b22 t2 o3 (last _ _ _ hZ2)
        | yes o3 b31 t3 => exact z6V _ c n (2 + x) 86 k ik hk out hn (by omega) hlt hol kb ke o2 b21 b22 t2 o3 b31 t3 (last _ _ _ hZ2)
    | tell kb hx0 k8 =>
      cases b2 with
      | no o2 =>
        cases b3 with
        | no o3 => exact z3Y _ c n (2 + x) 86 k ik hk out hn (by omega) hlt hol kb hx0 k8 o2 o3 (last _ _ _ hZ2)
        | yes o3 b31 t3 => exact z3Z _ c n (2 + x) 86 k ik hk out hn (by omega) hlt hol kb hx0 k8 o2 o3 b31 t3 (last _ _ _ hZ2)
      | yes o2 b21 b22 t2 =>
        cases b3 with
        | no o3 => exact z40 _ c n (2 + x) 86 k ik hk out hn (by omega) hlt hol kb hx0 k8 o2 b21 b22 t2 o3 (last _ _ _ hZ2)
        | yes o3 b31 t3 => exact z41 _ c n (2 + x) 86 k ik hk out hn (by omega) hlt hol kb hx0 k8 o2 b21 b22 t2 o3 b31 t3 (last _ _ _ hZ2)
    | note kb hx0 k8 =>
      cases b2 with
      | no o2 =>
        cases b3 with
        | no o3 => exact z42 _ c n (2 + x) 86 k ik hk out hn (by omega) hlt hol kb hx0 k8 o2 o3 (last _ _ _ hZ2)
        | yes o3 b31 t3 => exact z43 _ c n (2 + x) 86 k ik hk out hn (by omega) hlt hol kb hx0 k8 o2 o3 b31 t3 (last _ _ _ hZ2)
      | yes o2 b21 b22 t2 =>
        cases b3 with
        | no o3 => exact z44 _ c n (2 + x) 86 k ik hk out hn (by omega) hlt hol kb hx0 k8 o2 b21 b22 t2 o3 (last _ _ _ hZ2)
        | yes o3 b31 t3 => exact z45 _ c n (2 + x) 86 k ik hk out hn (by omega) hlt hol kb hx0 k8 o2 b21 b22 t2 o3 b31 t3 (last _ _ _ hZ2)
    | take kb hx0 k0 hu hi2 ku =>
      cases b2 with
      | no o2 =>
        cases b3 with
        | no o3 => exact z47 _ c n (2 + x) 86 k ik hk out hn (by omega) hlt hol kb hx0 k0 ku o2 o3 (last _ _ _ hZ2)
        | yes o3 b31 t3 => exact z48 _ c n (2 + x) 86 k ik hk out hn (by omega) hlt hol kb hx0 k0 ku o2 o3 b31 t3 (last _ _ _ hZ2)
      | yes o2 b21 b22 t2 =>
        cases b3 with
        | no o3 => exact z49 _ c n (2 + x) 86 k ik hk out hn (by omega) hlt hol kb hx0 k0 ku o2 b21 b22 t2 o3 (last _ _ _ hZ2)
        | yes o3 b31 t3 => exact z4a _ c n (2 + x) 86 k ik hk out hn (by omega) hlt hol kb hx0 k0 ku o2 b21 b22 t2 o3 b31 t3 (last _ _ _ hZ2)
    | beg kb hx0 k1 =>
      cases b2 with
      | no o2 =>
        cases b3 with
        | no o3 => exact z5w _ c n (2 + x) 86 k ik hk out hn (by omega) hlt hol kb hx0 k1 o2 o3 (last _ _ _ hZ2)
        | yes o3 b31 t3 => exact z5x _ c n (2 + x) 86 k ik hk out hn (by omega) hlt hol kb hx0 k1 o2 o3 b31 t3 (last _ _ _ hZ2)
      | yes o2 b21 b22 t2 =>
        cases b3 with
        | no o3 => exact z5y _ c n (2 + x) 86 k ik hk out hn (by omega) hlt hol kb hx0 k1 o2 b21 b22 t2 o3 (last _ _ _ hZ2)
        | yes o3 b31 t3 => exact z5z _ c n (2 + x) 86 k ik hk out hn (by omega) hlt hol kb hx0 k1 o2 b21 b22 t2 o3 b31 t3 (last _ _ _ hZ2)
    | car kb hx0 k2 k7 =>
      cases b2 with
      | no o2 =>
        cases b3 with
        | no o3 => exact z5A _ c n (2 + x) 86 k ik hk out hn (by omega) hlt hol kb hx0 k2 k7 o2 o3 (last _ _ _ hZ2)
        | yes o3 b31 t3 => exact z5B _ c n (2 + x) 86 k ik hk out hn (by omega) hlt hol kb hx0 k2 k7 o2 o3 b31 t3 (last _ _ _ hZ2)
      | yes o2 b21 b22 t2 =>
        cases b3 with
        | no o3 => exact z5C _ c n (2 + x) 86 k ik hk out hn (by omega) hlt hol kb hx0 k2 k7 o2 b21 b22 t2 o3 (last _ _ _ hZ2)
        | yes o3 b31 t3 => exact z5D _ c n (2 + x) 86 k ik hk out hn (by omega) hlt hol kb hx0 k2 k7 o2 b21 b22 t2 o3 b31 t3 (last _ _ _ hZ2)
 ·repeat ((try conv => whnf); first | (with_reducible first | refine z08 (fun Qs hN hE hR => ?_) | refine z06 ?_ | refine z00 (fun Qb kN kE kX kR => ?_) | refine z02 ?_ | refine z03 ?_ | refine z07 ?_ | refine z04 ?_ | refine z05 ?_ | (show W _ _ _ (.cond _ _ _) _ _; refine z01 rfl ?_) | (refine hN _ ?_; try clear hN hE hR Qs) | ((first | refine hE _ _ ?_ | refine hR _ ?_); try clear hN hE hR Qs) | ((first | refine kN _ ?_ | refine kE _ ?_ | refine kX _ _ rfl ?_ | refine kR _ ?_); try clear kN kE kX kR Qb)) | (refine stpQ ?_))
  (refine z09 (by rfl) ?_ ?_ (by rfl)) <;> (repeat' (first | (exact eqA) | (refine And.intro ?_ ?_) | ((fail_if_success (with_reducible (show _ = _))); (show _ = _))))
theorem zbQ (c : Bs) (i : Nat) (h : Int) (n : Nat) (hc : (c.length : Int) ≤ 1048576) (hi : i ≤ c.length) (hn : 0 < n ∧ n ≤ 3) (hm : ¬ 86 < 24 + c.length / 3) : ∃ (L : List Evt) (i' : Nat) (h' : Int), (∀ e ∈ L, EvG e) ∧ L.length ≤ 86 ∧ i' ≤ c.length ∧
 CT Tryd.prog 35 [curE c i h] [.ptr 1 0 0, .sl 1 (z0n c), .int .i64 (n : Int), .bool true] (.ref 2) [curE c i' h', .row 10 (evE L)] := by
 obtain ⟨x, i1, h1, kx⟩ := z1p c i h 6 hc hi (by decide)
 have hx := kx.1
 have cx := kx.2.2
 obtain ⟨L, i', h', hZ, hL, hLl, hi'⟩ := zbM c n (2 + x) (z1s c) hc hn (by omega) (z1s c) 0 i1 h1 [] (by omega) kx.2.1 (fun e he => by cases he) rfl
 refine ⟨L, i', h', hL, by have := z1d c; omega, hi', ?_⟩
 have hbl := z0J c
 have hml := z1d c
 clear hL hi' kx
 have em : z1s c = 24 + c.length / 3 := if_neg hm
 have fm : ¬ ((24 + c.length / 3 : Nat) : Int) > 86 := by omega
 refine z0d z0f 2 rfl Tryd.func35 rfl rfl rfl ?_
 conv => arg 6; whnf
 repeat ((try conv => whnf); first | (with_reducible first | refine z08 (fun Qs hN hE hR => ?_) | refine z06 ?_ | refine z00 (fun Qb kN kE kX kR => ?_) | refine z02 ?_ | refine z03 ?_ | refine z07 ?_ | refine z04 ?_ | refine z05 ?_ | (show W _ _ _ (.cond _ _ _) _ _; refine z01 rfl ?_) | (refine hN _ ?_; try clear hN hE hR Qs) | ((first | refine hE _ _ ?_ | refine hR _ ?_); try clear hN hE hR Qs) | ((first | refine kN _ ?_ | refine kE _ ?_ | refine kX _ _ rfl ?_ | refine kR _ ?_); try clear kN kE kX kR Qb)) | (refine Exists.intro c.length (And.intro hbl ?_)) | (refine z5j (n := nat_lit 3) (by omega) ?_) | (refine z1O (by omega) ?_) | (refine z0c fm ?_) | (refine ccB ([1]) (cx) ?_) | (refine stpQ ?_))
 rw [em] at hZ hLl hml
 clear hm em fm hbl hi hc
 generalize hmm : 24 + c.length / 3 = m at *
 clear hmm
 refine z0A 0 ⟨[(0, .ptr 1 0 0), (9, .ref 2)], [(1, some (curE c i' h')), (2, some (.row 10 (evE L)))], 3⟩ (Nat × Nat × Int × List Evt) (fun y => ⟨[(0, .ptr 1 0 0), (2, .int .i64 (n : Int)), (3, .bool true), (9, .ref 2), (10, .int .i64 ((m : Nat) : Int)), (11, .int .i64 ((2 + x : Nat) : Int)), (12, .ref 3), (13, .int .i64 (y.1 : Int))], [(1, some (curE c y.2.1 y.2.2.1)), (2, some (.row 10 (evE y.2.2.2))), (3, some (.row 1 (intE dk11)))], 4⟩)
  (fun y => y.1 ≤ m ∧ y.2.2.2.length = y.1 ∧ E1 c n (2 + x) (m) y.1 y.2.1 y.2.2.1 y.2.2.2 L i' h') (fun y => m - y.1) (0, i1, h1, []) ⟨by simp, rfl, hZ⟩ ?_ ?_ ?_
 ·(refine z0a (by rfl) ?_ ?_) <;> (repeat' (first | (exact eqA) | (refine And.intro ?_ ?_) | ((fail_if_success (with_reducible (show _ = _))); (show _ = _)))) <;> first | rfl | decide
 ·clear hZ cx
  intro y hy
  obtain ⟨k, ik, hk, out⟩ := y
  have hkm : k ≤ m := hy.1
  have hol : out.length = k := hy.2.1
  have hZ : E1 c n (2 + x) (m) k ik hk out L i' h' := hy.2.2
  clear hy
  simp only
  cases hZ with
  | stop =>
    have f1 : ¬ ((m : Nat) : Int) < ((m : Nat) : Int) := by omega
    repeat ((try conv => whnf); first | (with_reducible first | refine z08 (fun Qs hN hE hR => ?_) | refine z06 ?_ | refine z00 (fun Qb kN kE kX kR => ?_) | refine z02 ?_ | refine z03 ?_ | refine z07 ?_ | refine z04 ?_ | refine z05 ?_ | (show W _ _ _ (.cond _ _ _) _ _; refine z01 rfl ?_) | (refine hN _ ?_; try clear hN hE hR Qs) | ((first | refine hE _ _ ?_ | refine hR _ ?_); try clear hN hE hR Qs) | ((first | refine kN _ ?_ | refine kE _ ?_ | refine kX _ _ rfl ?_ | refine kR _ ?_); try clear kN kE kX kR Qb)) | (refine z0c f1 ?_) | (refine stpQ ?_))
    (refine z0a (by rfl) ?_ ?_) <;> (repeat' (first | (exact eqA) | (refine And.intro ?_ ?_) | ((fail_if_success (with_reducible (show _ = _))); (show _ = _))))
  | step hlt b1 b2 b3 hZ2 =>
    have last : ∀ (e3 : Evt) (i3 : Nat) (h3 : Int), E1 c n (2 + x) (m) (k + 1) i3 h3 (out ++ [e3]) L i' h' → ∀ S1, LeP 2 S1 ⟨[(0, .ptr 1 0 0), (2, .int .i64 (n : Int)), (3, .bool true), (9, .ref 2), (10, .int .i64 ((m : Nat) : Int)), (11, .int .i64 ((2 + x : Nat) : Int)), (12, .ref 3), (13, .int .i64 ((k + 1 : Nat) : Int))], [(1, some (curE c i3 h3)), (2, some (.row 10 (evE (out ++ [e3])))), (3, some (.row 1 (intE dk11)))], 4⟩ →
     ∃ y' : Nat × Nat × Int × List Evt, (y'.1 ≤ m ∧ y'.2.2.2.length = y'.1 ∧ E1 c n (2 + x) (m) y'.1 y'.2.1 y'.2.2.1 y'.2.2.2 L i' h') ∧ m - y'.1 < m - k ∧ LeP 2 S1 ⟨[(0, .ptr 1 0 0), (2, .int .i64 (n : Int)), (3, .bool true), (9, .ref 2), (10, .int .i64 ((m : Nat) : Int)), (11, .int .i64 ((2 + x : Nat) : Int)), (12, .ref 3), (13, .int .i64 (y'.1 : Int))], [(1, some (curE c y'.2.1 y'.2.2.1)), (2, some (.row 10 (evE y'.2.2.2))), (3, some (.row 1 (intE dk11)))], 4⟩ := fun e3 i3 h3 hZ S1 hS => ⟨(k + 1, i3, h3, out ++ [e3]), ⟨hlt, by show (out ++ [_]).length = k + 1; rw [List.length_append, hol]; rfl, hZ⟩, by show m - (k + 1) < m - k; omega, hS⟩
    cases b1 with
    | ev kb he hi2 ke =>
      cases b2 with
      | no o2 =>
        cases b3 with
        | no o3 => exact z6S _ c n (2 + x) m k ik hk out hn (by omega) hlt hol kb ke o2 o3 (last _ _ _ hZ2)
        | yes o3 b31 t3 => exact z6T _ c n (2 + x) m k ik hk out hn (by omega) hlt hol kb ke o2 o3 b31 t3 (last _ _ _ hZ2)
      | yes o2 b21 b22 t2 =>
        cases b3 with
        | no o3 => exact z6U _ c n (2 + x) m k ik hk out hn (by omega) hlt hol kb ke o2 b21 b22 t2 o3 (last _ _ _ hZ2)
        | yes o3 b31 t3 => exact z6V _ c n (2 + x) m k ik hk out hn (by omega) hlt hol kb ke o2 b21 b22 t2 o3 b31 t3 (last _ _ _ hZ2)
    | tell kb hx0 k8 =>
      cases b2 with
      | no o2 =>
        cases b3 with
        | no o3 => exact z3Y _ c n (2 + x) m k ik hk out hn (by omega) hlt hol kb hx0 k8 o2 o3 (last _ _ _ hZ2)
        | yes o3 b31 t3 => exact z3Z _ c n (2 + x) m k ik hk out hn (by omega) hlt hol kb hx0 k8 o2 o3 b31 t3 (last _ _ _ hZ2)
      | yes o2 b21 b22 t2 =>
        cases b3 with
        | no o3 => exact z40 _ c n (2 + x) m k ik hk out hn (by omega) hlt hol kb hx0 k8 o2 b21 b22 t2 o3 (last _ _ _ hZ2)
        | yes o3 b31 t3 => exact z41 _ c n (2 + x) m k ik hk out hn (by omega) hlt hol kb hx0 k8 o2 b21 b22 t2 o3 b31 t3 (last _ _ _ hZ2)
    | note kb hx0 k8 =>
      cases b2 with
      | no o2 =>
        cases b3 with
        | no o3 => exact z42 _ c n (2 + x) m k ik hk out hn (by omega) hlt hol kb hx0 k8 o2 o3 (last _ _ _ hZ2)
        | yes o3 b31 t3 => exact z43 _ c n (2 + x) m k ik hk out hn (by omega) hlt hol kb hx0 k8 o2 o3 b31 t3 (last _ _ _ hZ2)
      | yes o2 b21 b22 t2 =>
        cases b3 with
        | no o3 => exact z44 _ c n (2 + x) m k ik hk out hn (by omega) hlt hol kb hx0 k8 o2 b21 b22 t2 o3 (last _ _ _ hZ2)
        | yes o3 b31 t3 => exact z45 _ c n (2 + x) m k ik hk out hn (by omega) hlt hol kb hx0 k8 o2 b21 b22 t2 o3 b31 t3 (last _ _ _ hZ2)
    | take kb hx0 k0 hu hi2 ku =>
      cases b2 with
      | no o2 =>
        cases b3 with
        | no o3 => exact z47 _ c n (2 + x) m k ik hk out hn (by omega) hlt hol kb hx0 k0 ku o2 o3 (last _ _ _ hZ2)
        | yes o3 b31 t3 => exact z48 _ c n (2 + x) m k ik hk out hn (by omega) hlt hol kb hx0 k0 ku o2 o3 b31 t3 (last _ _ _ hZ2)
      | yes o2 b21 b22 t2 =>
        cases b3 with
        | no o3 => exact z49 _ c n (2 + x) m k ik hk out hn (by omega) hlt hol kb hx0 k0 ku o2 b21 b22 t2 o3 (last _ _ _ hZ2)
        | yes o3 b31 t3 => exact z4a _ c n (2 + x) m k ik hk out hn (by omega) hlt hol kb hx0 k0 ku o2 b21 b22 t2 o3 b31 t3 (last _ _ _ hZ2)
    | beg kb hx0 k1 =>
      cases b2 with
      | no o2 =>
        cases b3 with
        | no o3 => exact z5w _ c n (2 + x) m k ik hk out hn (by omega) hlt hol kb hx0 k1 o2 o3 (last _ _ _ hZ2)
        | yes o3 b31 t3 => exact z5x _ c n (2 + x) m k ik hk out hn (by omega) hlt hol kb hx0 k1 o2 o3 b31 t3 (last _ _ _ hZ2)
      | yes o2 b21 b22 t2 =>
        cases b3 with
        | no o3 => exact z5y _ c n (2 + x) m k ik hk out hn (by omega) hlt hol kb hx0 k1 o2 b21 b22 t2 o3 (last _ _ _ hZ2)
        | yes o3 b31 t3 => exact z5z _ c n (2 + x) m k ik hk out hn (by omega) hlt hol kb hx0 k1 o2 b21 b22 t2 o3 b31 t3 (last _ _ _ hZ2)
    | car kb hx0 k2 k7 =>
      cases b2 with
      | no o2 =>
        cases b3 with
        | no o3 => exact z5A _ c n (2 + x) m k ik hk out hn (by omega) hlt hol kb hx0 k2 k7 o2 o3 (last _ _ _ hZ2)
        | yes o3 b31 t3 => exact z5B _ c n (2 + x) m k ik hk out hn (by omega) hlt hol kb hx0 k2 k7 o2 o3 b31 t3 (last _ _ _ hZ2)
      | yes o2 b21 b22 t2 =>
        cases b3 with
        | no o3 => exact z5C _ c n (2 + x) m k ik hk out hn (by omega) hlt hol kb hx0 k2 k7 o2 b21 b22 t2 o3 (last _ _ _ hZ2)
        | yes o3 b31 t3 => exact z5D _ c n (2 + x) m k ik hk out hn (by omega) hlt hol kb hx0 k2 k7 o2 b21 b22 t2 o3 b31 t3 (last _ _ _ hZ2)
 ·repeat ((try conv => whnf); first | (with_reducible first | refine z08 (fun Qs hN hE hR => ?_) | refine z06 ?_ | refine z00 (fun Qb kN kE kX kR => ?_) | refine z02 ?_ | refine z03 ?_ | refine z07 ?_ | refine z04 ?_ | refine z05 ?_ | (show W _ _ _ (.cond _ _ _) _ _; refine z01 rfl ?_) | (refine hN _ ?_; try clear hN hE hR Qs) | ((first | refine hE _ _ ?_ | refine hR _ ?_); try clear hN hE hR Qs) | ((first | refine kN _ ?_ | refine kE _ ?_ | refine kX _ _ rfl ?_ | refine kR _ ?_); try clear kN kE kX kR Qb)) | (refine stpQ ?_))
  (refine z09 (by rfl) ?_ ?_ (by rfl)) <;> (repeat' (first | (exact eqA) | (refine And.intro ?_ ?_) | ((fail_if_success (with_reducible (show _ = _))); (show _ = _))))
end
end Go.Proofs.YtfgkjgfigjpkoaaDoor
