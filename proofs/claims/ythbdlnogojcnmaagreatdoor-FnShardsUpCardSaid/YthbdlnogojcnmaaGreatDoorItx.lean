/- Functions by content: a shard of the program takes a change. Functions by content: a shard of the program falls and rises. -/
import Derived.Test.YthbdlnogojcnmaaGreatDoorIhx
import Derived.Test.YthbdlnogojcnmaaGreatDoorLok
import Derived.Test.YthbdlnogojcnmaaGreatDoorCap
namespace Go.Proofs.YthbdlnogojcnmaaGreatDoor
set_option maxRecDepth 100000
set_option maxHeartbeats 16000000
set_option linter.unusedVariables false
set_option linter.unusedSimpArgs false
set_option linter.unusedSectionVars false
open Go.RowKit Pl
def tkC (a K : Int) (s : Sv) (u : Ch) : Int := if ¬ (z1L u.2.1 K : Int) = a then 1 else match idIx s.al u.1 with
 | some k => if chAt s.al k = u then 0 else 1
 | none => if (wtN s).length < 12 then 0 else 1
theorem zhV (x u : Ch) : eqC [.int .i64 x.1, .str x.2.1, .str x.2.2] [.int .i64 u.1, .str u.2.1, .str u.2.2] = decide (x = u) := by
 obtain ⟨x1, x2, x3⟩ := x
 obtain ⟨u1, u2, u3⟩ := u
 simp [eqC, Prod.mk.injEq]
section
attribute [local irreducible] z0p z0r z0y AnsP LeP W CvE z0J
theorem zhx (a K : Int) (up : Bool) (fs : List Fl) (V : List (List T)) (s : Sv) {n : Nat} (g : SvOk n s) (hn : n ≤ 1000) : CT Tryz.prog 25 [] [.agg (svE a K up fs V s)] (.sl 3 (chE (wtN s))) [] := by
 have g1 := g.ep
 have g3 := g.tl
 have g4 := g.al
 have gl := zbr g
 have c1 := zeo a K up fs V s ⟨by omega, by omega⟩
 have hcl := z0D s.al
 have ew : chE (wtN s) = (chE s.al).drop (z3j s.tk) := by unfold wtN; simp [chE, List.map_drop]
 rw [ew]
 generalize z3j s.tk = x at *
 have f0 : ¬ (x : Int) < 0 := by omega
 have em : ((x : Nat) : Int) = (if ((s.al.length : Nat) : Int) < (x : Int) then ((s.al.length : Nat) : Int) else (x : Int)) := by rw [if_neg (by omega)]
 have hx : x ≤ (chE s.al).length := by omega
 have hdl : ((chE s.al).drop x).length ≤ 1000 := by rw [List.length_drop]; omega
 unfold svE at *
 clear g ew
 generalize hal : chE s.al = al at *
 clear hal
 refine z01 z0l 1 rfl Tryz.func25 rfl rfl rfl ?_
 conv => arg 6; whnf
 repeat ((try conv => whnf); first | (with_reducible first | refine z0e (fun Qs hN hE hR => ?_) | refine z0c ?_ | refine z05 (fun Qb kN kE kX kR => ?_) | refine z07 ?_ | refine z08 ?_ | refine z0d ?_ | refine z09 ?_ | refine z0a ?_ | (show W _ _ _ (.cond _ _ _) _ _; refine z06 rfl ?_) | (refine hN _ ?_; try clear hN hE hR Qs; (try (conv => arg 6; dsimp only [ovl, List.set, List.map, ren0]))) | ((first | refine hE _ _ ?_ | refine hR _ ?_); try clear hN hE hR Qs) | ((first | refine kN _ ?_ | refine kE _ ?_ | refine kX _ _ rfl ?_ | refine kR _ ?_); try clear kN kE kX kR Qb)) | (refine ccA ([]) (c1) ?_) | (refine z0b f0 ?_) | (refine Exists.intro s.al.length (And.intro hcl ?_)) | (refine Exists.intro _ (And.intro em ?_)) | (refine Exists.intro x (And.intro rfl (And.intro hx ?_))) | (refine And.intro (by simp only [List.length_append, List.length_set, List.length_replicate, List.length_cons, List.length_nil, List.nil_append]; omega) ?_) | (refine And.intro (by kernel_rfl) ?_) | (refine stpQ ?_))
 (refine z00 (by rfl) ?_ ?_ (by rfl)) <;> (repeat' (first | (exact eqA) | (refine And.intro ?_ ?_) | ((fail_if_success (with_reducible (show _ = _))); (show _ = _)))) <;> rfl
theorem zhE (a K : Int) (ts : List Bs) (s : Sv) (u : Ch) {n : Nat} (g : SvOk n s) (hn : n ≤ 80) (h : Rec 89 ts) (hu : z0h u.1 u.2.1 u.2.2 = true) (hs : ¬ (z1L u.2.1 K : Int) = a) : CT Tryz.prog 23 [] [.agg (svE a K true (dkOf shardN ts) (vwE s.vs) s), .agg (chL u)] (.tup [.agg (svE a K true (dkOf shardN ts) (vwE s.vs) (s)), .int .i64 1]) [] := by
 have g1 := g.ep
 have g2 := g.vl
 have g3 := g.tl
 have g4 := g.al
 have hv : ∀ v ∈ s.vs, v.length ≤ 1000 := fun v hv => by have := (z0w (g.vo v hv)).1; omega
 have huf : z6u u := by have := za2 (us := [u]) (fun x hx => by rw [List.mem_singleton.1 hx]; exact hu) 0; exact this
 have hux : (1 ≤ (1 :: z3h u).length ∧ (1 :: z3h u).length ≤ 200) ∧ u.2.1.length ≤ 12 := by
  unfold z3h
  rw [hu]
  have h2 := hu
  unfold z0h at h2
  simp only [Bool.and_eq_true, decide_eq_true_eq] at h2
  obtain ⟨m, hm⟩ : ∃ m : Nat, u.1 = m := ⟨u.1.toNat, by omega⟩
  have := zbs (id := m) (n := u.2.1) (v := u.2.2) (by rw [← hm]; exact hu)
  rw [← hm] at this
  exact ⟨this, z1f h2.1.2⟩
 have cC := z6h a K true (dkOf shardN ts) s (z2p (n := shardN) (by decide) (h.up (by decide))).1 ⟨by omega, by omega, by omega, hv⟩
 have c2 := zhw u huf
 rw [hu] at c2
 have c3 := zem u.2.1 K (by omega)
 have c4 := z4j s.al u.1 (by omega)
 have c5 := zhv u huf
 rw [hu] at c5
 have c6 := zeQ shardN (1 :: z3h u) ts (by decide) (by decide) hux.1 h
 have c7 := zhx a K true (dkOf shardN ts) (vwE s.vs) s g (by omega)
 have hct : (z3h u).length ≤ 200 := by have := hux.1.2; simp only [List.length_cons] at this; omega
 have l7 := z0D (wtN s)
 have l3 := z0D s.al
 have b0 : ¬ (1 : Int) = 0 := by decide
 clear g h hux huf hv
 obtain ⟨ui, un, uv⟩ := u
 generalize dkOf shardN (ts ++ [1 :: z3h (ui, un, uv)]) = d2 at *
 generalize dkOf shardN ts = d0 at *
 generalize z3h (ui, un, uv) = ut at *
 simp only [svE, svR, svRw, chL] at *
 refine z01 z0j 1 rfl Tryz.func23 rfl rfl rfl ?_
 conv => arg 6; whnf
 repeat ((try conv => whnf); first | (with_reducible first | refine z0e (fun Qs hN hE hR => ?_) | refine z0c ?_ | refine z05 (fun Qb kN kE kX kR => ?_) | refine z07 ?_ | refine z08 ?_ | refine z0d ?_ | refine z09 ?_ | refine z0a ?_ | (show W _ _ _ (.cond _ _ _) _ _; refine z06 rfl ?_) | (refine hN _ ?_; try clear hN hE hR Qs; (try (conv => arg 6; dsimp only [ovl, List.set, List.map, ren0]))) | ((first | refine hE _ _ ?_ | refine hR _ ?_); try clear hN hE hR Qs) | ((first | refine kN _ ?_ | refine kE _ ?_ | refine kX _ _ rfl ?_ | refine kR _ ?_); try clear kN kE kX kR Qb)) | (refine ccA ([]) (cC) ?_) | (refine ccA ([]) (c2) ?_) | (refine ccA ([]) (c3) ?_) | (refine ccA ([]) (c4) ?_) | (refine ccA ([]) (c5) ?_) | (refine And.intro (by simp only [List.length_append, List.length_cons, List.length_nil]; omega) ?_) | (refine ccA ([]) (c6) ?_) | (refine ccA ([]) (c7) ?_) | (refine Exists.intro (wtN s).length (And.intro l7 ?_)) | (refine z2K hs ?_) | (refine And.intro (by simp only [List.length_append, List.length_set, List.length_replicate, List.length_cons, List.length_nil, List.nil_append]; omega) ?_) | (refine And.intro (by kernel_rfl) ?_) | (refine stpQ ?_))
 (refine z00 (by rfl) ?_ ?_ (by rfl)) <;> (repeat' (first | (exact eqA) | (refine And.intro ?_ ?_) | ((fail_if_success (with_reducible (show _ = _))); (show _ = _)))) <;> first | rfl | (simp; done)
theorem zhG (a K : Int) (ts : List Bs) (s : Sv) (u : Ch) {n : Nat} (g : SvOk n s) (hn : n ≤ 80) (h : Rec 89 ts) (hu : z0h u.1 u.2.1 u.2.2 = true) (hs : (z1L u.2.1 K : Int) = a) {k : Nat} (hk : idIx s.al u.1 = some k) (hq : chAt s.al k = u) : CT Tryz.prog 23 [] [.agg (svE a K true (dkOf shardN ts) (vwE s.vs) s), .agg (chL u)] (.tup [.agg (svE a K true (dkOf shardN ts) (vwE s.vs) (s)), .int .i64 0]) [] := by
 have g1 := g.ep
 have g2 := g.vl
 have g3 := g.tl
 have g4 := g.al
 have hv : ∀ v ∈ s.vs, v.length ≤ 1000 := fun v hv => by have := (z0w (g.vo v hv)).1; omega
 have huf : z6u u := by have := za2 (us := [u]) (fun x hx => by rw [List.mem_singleton.1 hx]; exact hu) 0; exact this
 have hux : (1 ≤ (1 :: z3h u).length ∧ (1 :: z3h u).length ≤ 200) ∧ u.2.1.length ≤ 12 := by
  unfold z3h
  rw [hu]
  have h2 := hu
  unfold z0h at h2
  simp only [Bool.and_eq_true, decide_eq_true_eq] at h2
  obtain ⟨m, hm⟩ : ∃ m : Nat, u.1 = m := ⟨u.1.toNat, by omega⟩
  have := zbs (id := m) (n := u.2.1) (v := u.2.2) (by rw [← hm]; exact hu)
  rw [← hm] at this
  exact ⟨this, z1f h2.1.2⟩
 have cC := z6h a K true (dkOf shardN ts) s (z2p (n := shardN) (by decide) (h.up (by decide))).1 ⟨by omega, by omega, by omega, hv⟩
 have c2 := zhw u huf
 rw [hu] at c2
 have c3 := zem u.2.1 K (by omega)
 have c4 := z4j s.al u.1 (by omega)
 have c5 := zhv u huf
 rw [hu] at c5
 have c6 := zeQ shardN (1 :: z3h u) ts (by decide) (by decide) hux.1 h
 have c7 := zhx a K true (dkOf shardN ts) (vwE s.vs) s g (by omega)
 have hct : (z3h u).length ≤ 200 := by have := hux.1.2; simp only [List.length_cons] at this; omega
 have l7 := z0D (wtN s)
 have l3 := z0D s.al
 have b0 : ¬ (1 : Int) = 0 := by decide
 rw [za5 hk] at c4
 have q := zhV (chAt s.al k) u
 rw [decide_eq_true hq] at q
 generalize chAt s.al k = z at *
 clear hq hk
 clear g h hux huf hv
 obtain ⟨ui, un, uv⟩ := u
 generalize dkOf shardN (ts ++ [1 :: z3h (ui, un, uv)]) = d2 at *
 generalize dkOf shardN ts = d0 at *
 generalize z3h (ui, un, uv) = ut at *
 simp only [svE, svR, svRw, chL] at *
 refine z01 z0j 1 rfl Tryz.func23 rfl rfl rfl ?_
 conv => arg 6; whnf
 repeat ((try conv => whnf); first | (with_reducible first | refine z0e (fun Qs hN hE hR => ?_) | refine z0c ?_ | refine z05 (fun Qb kN kE kX kR => ?_) | refine z07 ?_ | refine z08 ?_ | refine z0d ?_ | refine z09 ?_ | refine z0a ?_ | (show W _ _ _ (.cond _ _ _) _ _; refine z06 rfl ?_) | (refine hN _ ?_; try clear hN hE hR Qs; (try (conv => arg 6; dsimp only [ovl, List.set, List.map, ren0]))) | ((first | refine hE _ _ ?_ | refine hR _ ?_); try clear hN hE hR Qs) | ((first | refine kN _ ?_ | refine kE _ ?_ | refine kX _ _ rfl ?_ | refine kR _ ?_); try clear kN kE kX kR Qb)) | (refine ccA ([]) (cC) ?_) | (refine ccA ([]) (c2) ?_) | (refine ccA ([]) (c3) ?_) | (refine ccA ([]) (c4) ?_) | (refine ccA ([]) (c5) ?_) | (refine And.intro (by simp only [List.length_append, List.length_cons, List.length_nil]; omega) ?_) | (refine ccA ([]) (c6) ?_) | (refine ccA ([]) (c7) ?_) | (refine Exists.intro (wtN s).length (And.intro l7 ?_)) | (refine z0G hs ?_) | (refine cb_t q ?_) | (refine And.intro (by simp only [List.length_append, List.length_set, List.length_replicate, List.length_cons, List.length_nil, List.nil_append]; omega) ?_) | (refine And.intro (by kernel_rfl) ?_) | (refine stpQ ?_))
 (refine z00 (by rfl) ?_ ?_ (by rfl)) <;> (repeat' (first | (exact eqA) | (refine And.intro ?_ ?_) | ((fail_if_success (with_reducible (show _ = _))); (show _ = _)))) <;> first | rfl | (simp; done)
theorem zhF (a K : Int) (ts : List Bs) (s : Sv) (u : Ch) {n : Nat} (g : SvOk n s) (hn : n ≤ 80) (h : Rec 89 ts) (hu : z0h u.1 u.2.1 u.2.2 = true) (hs : (z1L u.2.1 K : Int) = a) {k : Nat} (hk : idIx s.al u.1 = some k) (hq : ¬ chAt s.al k = u) : CT Tryz.prog 23 [] [.agg (svE a K true (dkOf shardN ts) (vwE s.vs) s), .agg (chL u)] (.tup [.agg (svE a K true (dkOf shardN ts) (vwE s.vs) (s)), .int .i64 1]) [] := by
 have g1 := g.ep
 have g2 := g.vl
 have g3 := g.tl
 have g4 := g.al
 have hv : ∀ v ∈ s.vs, v.length ≤ 1000 := fun v hv => by have := (z0w (g.vo v hv)).1; omega
 have huf : z6u u := by have := za2 (us := [u]) (fun x hx => by rw [List.mem_singleton.1 hx]; exact hu) 0; exact this
 have hux : (1 ≤ (1 :: z3h u).length ∧ (1 :: z3h u).length ≤ 200) ∧ u.2.1.length ≤ 12 := by
  unfold z3h
  rw [hu]
  have h2 := hu
  unfold z0h at h2
  simp only [Bool.and_eq_true, decide_eq_true_eq] at h2
  obtain ⟨m, hm⟩ : ∃ m : Nat, u.1 = m := ⟨u.1.toNat, by omega⟩
  have := zbs (id := m) (n := u.2.1) (v := u.2.2) (by rw [← hm]; exact hu)
  rw [← hm] at this
  exact ⟨this, z1f h2.1.2⟩
 have cC := z6h a K true (dkOf shardN ts) s (z2p (n := shardN) (by decide) (h.up (by decide))).1 ⟨by omega, by omega, by omega, hv⟩
 have c2 := zhw u huf
 rw [hu] at c2
 have c3 := zem u.2.1 K (by omega)
 have c4 := z4j s.al u.1 (by omega)
 have c5 := zhv u huf
 rw [hu] at c5
 have c6 := zeQ shardN (1 :: z3h u) ts (by decide) (by decide) hux.1 h
 have c7 := zhx a K true (dkOf shardN ts) (vwE s.vs) s g (by omega)
 have hct : (z3h u).length ≤ 200 := by have := hux.1.2; simp only [List.length_cons] at this; omega
 have l7 := z0D (wtN s)
 have l3 := z0D s.al
 have b0 : ¬ (1 : Int) = 0 := by decide
 rw [za5 hk] at c4
 have q := zhV (chAt s.al k) u
 rw [decide_eq_false hq] at q
 generalize chAt s.al k = z at *
 clear hq hk
 clear g h hux huf hv
 obtain ⟨ui, un, uv⟩ := u
 generalize dkOf shardN (ts ++ [1 :: z3h (ui, un, uv)]) = d2 at *
 generalize dkOf shardN ts = d0 at *
 generalize z3h (ui, un, uv) = ut at *
 simp only [svE, svR, svRw, chL] at *
 refine z01 z0j 1 rfl Tryz.func23 rfl rfl rfl ?_
 conv => arg 6; whnf
 repeat ((try conv => whnf); first | (with_reducible first | refine z0e (fun Qs hN hE hR => ?_) | refine z0c ?_ | refine z05 (fun Qb kN kE kX kR => ?_) | refine z07 ?_ | refine z08 ?_ | refine z0d ?_ | refine z09 ?_ | refine z0a ?_ | (show W _ _ _ (.cond _ _ _) _ _; refine z06 rfl ?_) | (refine hN _ ?_; try clear hN hE hR Qs; (try (conv => arg 6; dsimp only [ovl, List.set, List.map, ren0]))) | ((first | refine hE _ _ ?_ | refine hR _ ?_); try clear hN hE hR Qs) | ((first | refine kN _ ?_ | refine kE _ ?_ | refine kX _ _ rfl ?_ | refine kR _ ?_); try clear kN kE kX kR Qb)) | (refine ccA ([]) (cC) ?_) | (refine ccA ([]) (c2) ?_) | (refine ccA ([]) (c3) ?_) | (refine ccA ([]) (c4) ?_) | (refine ccA ([]) (c5) ?_) | (refine And.intro (by simp only [List.length_append, List.length_cons, List.length_nil]; omega) ?_) | (refine ccA ([]) (c6) ?_) | (refine ccA ([]) (c7) ?_) | (refine Exists.intro (wtN s).length (And.intro l7 ?_)) | (refine z0G hs ?_) | (refine cb_f q ?_) | (refine And.intro (by simp only [List.length_append, List.length_set, List.length_replicate, List.length_cons, List.length_nil, List.nil_append]; omega) ?_) | (refine And.intro (by kernel_rfl) ?_) | (refine stpQ ?_))
 (refine z00 (by rfl) ?_ ?_ (by rfl)) <;> (repeat' (first | (exact eqA) | (refine And.intro ?_ ?_) | ((fail_if_success (with_reducible (show _ = _))); (show _ = _)))) <;> first | rfl | (simp; done)
theorem zhH (a K : Int) (ts : List Bs) (s : Sv) (u : Ch) {n : Nat} (g : SvOk n s) (hn : n ≤ 80) (h : Rec 89 ts) (hu : z0h u.1 u.2.1 u.2.2 = true) (hs : (z1L u.2.1 K : Int) = a) (hk : idIx s.al u.1 = none) (hw : ¬ (wtN s).length < 12) : CT Tryz.prog 23 [] [.agg (svE a K true (dkOf shardN ts) (vwE s.vs) s), .agg (chL u)] (.tup [.agg (svE a K true (dkOf shardN ts) (vwE s.vs) (s)), .int .i64 1]) [] := by
 have g1 := g.ep
 have g2 := g.vl
 have g3 := g.tl
 have g4 := g.al
 have hv : ∀ v ∈ s.vs, v.length ≤ 1000 := fun v hv => by have := (z0w (g.vo v hv)).1; omega
 have huf : z6u u := by have := za2 (us := [u]) (fun x hx => by rw [List.mem_singleton.1 hx]; exact hu) 0; exact this
 have hux : (1 ≤ (1 :: z3h u).length ∧ (1 :: z3h u).length ≤ 200) ∧ u.2.1.length ≤ 12 := by
  unfold z3h
  rw [hu]
  have h2 := hu
  unfold z0h at h2
  simp only [Bool.and_eq_true, decide_eq_true_eq] at h2
  obtain ⟨m, hm⟩ : ∃ m : Nat, u.1 = m := ⟨u.1.toNat, by omega⟩
  have := zbs (id := m) (n := u.2.1) (v := u.2.2) (by rw [← hm]; exact hu)
  rw [← hm] at this
  exact ⟨this, z1f h2.1.2⟩
 have cC := z6h a K true (dkOf shardN ts) s (z2p (n := shardN) (by decide) (h.up (by decide))).1 ⟨by omega, by omega, by omega, hv⟩
 have c2 := zhw u huf
 rw [hu] at c2
 have c3 := zem u.2.1 K (by omega)
 have c4 := z4j s.al u.1 (by omega)
 have c5 := zhv u huf
 rw [hu] at c5
 have c6 := zeQ shardN (1 :: z3h u) ts (by decide) (by decide) hux.1 h
 have c7 := zhx a K true (dkOf shardN ts) (vwE s.vs) s g (by omega)
 have hct : (z3h u).length ≤ 200 := by have := hux.1.2; simp only [List.length_cons] at this; omega
 have l7 := z0D (wtN s)
 have l3 := z0D s.al
 have b0 : ¬ (1 : Int) = 0 := by decide
 rw [za4 hk] at c4
 have fw : (((wtN s).length : Nat) : Int) ≥ 12 := by omega
 clear hk
 clear g h hux huf hv
 obtain ⟨ui, un, uv⟩ := u
 generalize dkOf shardN (ts ++ [1 :: z3h (ui, un, uv)]) = d2 at *
 generalize dkOf shardN ts = d0 at *
 generalize z3h (ui, un, uv) = ut at *
 simp only [svE, svR, svRw, chL] at *
 refine z01 z0j 1 rfl Tryz.func23 rfl rfl rfl ?_
 conv => arg 6; whnf
 repeat ((try conv => whnf); first | (with_reducible first | refine z0e (fun Qs hN hE hR => ?_) | refine z0c ?_ | refine z05 (fun Qb kN kE kX kR => ?_) | refine z07 ?_ | refine z08 ?_ | refine z0d ?_ | refine z09 ?_ | refine z0a ?_ | (show W _ _ _ (.cond _ _ _) _ _; refine z06 rfl ?_) | (refine hN _ ?_; try clear hN hE hR Qs; (try (conv => arg 6; dsimp only [ovl, List.set, List.map, ren0]))) | ((first | refine hE _ _ ?_ | refine hR _ ?_); try clear hN hE hR Qs) | ((first | refine kN _ ?_ | refine kE _ ?_ | refine kX _ _ rfl ?_ | refine kR _ ?_); try clear kN kE kX kR Qb)) | (refine ccA ([]) (cC) ?_) | (refine ccA ([]) (c2) ?_) | (refine ccA ([]) (c3) ?_) | (refine ccA ([]) (c4) ?_) | (refine ccA ([]) (c5) ?_) | (refine And.intro (by simp only [List.length_append, List.length_cons, List.length_nil]; omega) ?_) | (refine ccA ([]) (c6) ?_) | (refine ccA ([]) (c7) ?_) | (refine Exists.intro (wtN s).length (And.intro l7 ?_)) | (refine z0G hs ?_) | (refine z0g fw ?_) | (refine And.intro (by simp only [List.length_append, List.length_set, List.length_replicate, List.length_cons, List.length_nil, List.nil_append]; omega) ?_) | (refine And.intro (by kernel_rfl) ?_) | (refine stpQ ?_))
 (refine z00 (by rfl) ?_ ?_ (by rfl)) <;> (repeat' (first | (exact eqA) | (refine And.intro ?_ ?_) | ((fail_if_success (with_reducible (show _ = _))); (show _ = _)))) <;> first | rfl | (simp; done)
theorem zhJ (a K : Int) (ts : List Bs) (s : Sv) (u : Ch) {n : Nat} (g : SvOk n s) (hn : n ≤ 80) (h : Rec 89 ts) (hu : z0h u.1 u.2.1 u.2.2 = true) (hs : (z1L u.2.1 K : Int) = a) (hk : idIx s.al u.1 = none) (hw : (wtN s).length < 12) : CT Tryz.prog 23 [] [.agg (svE a K true (dkOf shardN ts) (vwE s.vs) s), .agg (chL u)] (.tup [.agg (svE a K true (dkOf shardN (ts ++ [1 :: z3h u])) (vwE s.vs) ({ s with al := s.al ++ [u] })), .int .i64 0]) [] := by
 have g1 := g.ep
 have g2 := g.vl
 have g3 := g.tl
 have g4 := g.al
 have hv : ∀ v ∈ s.vs, v.length ≤ 1000 := fun v hv => by have := (z0w (g.vo v hv)).1; omega
 have huf : z6u u := by have := za2 (us := [u]) (fun x hx => by rw [List.mem_singleton.1 hx]; exact hu) 0; exact this
 have hux : (1 ≤ (1 :: z3h u).length ∧ (1 :: z3h u).length ≤ 200) ∧ u.2.1.length ≤ 12 := by
  unfold z3h
  rw [hu]
  have h2 := hu
  unfold z0h at h2
  simp only [Bool.and_eq_true, decide_eq_true_eq] at h2
  obtain ⟨m, hm⟩ : ∃ m : Nat, u.1 = m := ⟨u.1.toNat, by omega⟩
  have := zbs (id := m) (n := u.2.1) (v := u.2.2) (by rw [← hm]; exact hu)
  rw [← hm] at this
  exact ⟨this, z1f h2.1.2⟩
 have cC := z6h a K true (dkOf shardN ts) s (z2p (n := shardN) (by decide) (h.up (by decide))).1 ⟨by omega, by omega, by omega, hv⟩
 have c2 := zhw u huf
 rw [hu] at c2
 have c3 := zem u.2.1 K (by omega)
 have c4 := z4j s.al u.1 (by omega)
 have c5 := zhv u huf
 rw [hu] at c5
 have c6 := zeQ shardN (1 :: z3h u) ts (by decide) (by decide) hux.1 h
 have c7 := zhx a K true (dkOf shardN ts) (vwE s.vs) s g (by omega)
 have hct : (z3h u).length ≤ 200 := by have := hux.1.2; simp only [List.length_cons] at this; omega
 have l7 := z0D (wtN s)
 have l3 := z0D s.al
 have b0 : ¬ (1 : Int) = 0 := by decide
 rw [za4 hk] at c4
 have fw : ¬ (((wtN s).length : Nat) : Int) ≥ 12 := by omega
 have hap : chE (s.al ++ [u]) = chE s.al ++ [chL u] := zel _ _
 clear hk
 clear g h hux huf hv
 obtain ⟨ui, un, uv⟩ := u
 generalize dkOf shardN (ts ++ [1 :: z3h (ui, un, uv)]) = d2 at *
 generalize dkOf shardN ts = d0 at *
 generalize z3h (ui, un, uv) = ut at *
 simp only [svE, svR, svRw, chL] at *
 rw [hap]
 refine z01 z0j 1 rfl Tryz.func23 rfl rfl rfl ?_
 conv => arg 6; whnf
 repeat ((try conv => whnf); first | (with_reducible first | refine z0e (fun Qs hN hE hR => ?_) | refine z0c ?_ | refine z05 (fun Qb kN kE kX kR => ?_) | refine z07 ?_ | refine z08 ?_ | refine z0d ?_ | refine z09 ?_ | refine z0a ?_ | (show W _ _ _ (.cond _ _ _) _ _; refine z06 rfl ?_) | (refine hN _ ?_; try clear hN hE hR Qs; (try (conv => arg 6; dsimp only [ovl, List.set, List.map, ren0]))) | ((first | refine hE _ _ ?_ | refine hR _ ?_); try clear hN hE hR Qs) | ((first | refine kN _ ?_ | refine kE _ ?_ | refine kX _ _ rfl ?_ | refine kR _ ?_); try clear kN kE kX kR Qb)) | (refine ccA ([]) (cC) ?_) | (refine ccA ([]) (c2) ?_) | (refine ccA ([]) (c3) ?_) | (refine ccA ([]) (c4) ?_) | (refine ccA ([]) (c5) ?_) | (refine And.intro (by simp only [List.length_append, List.length_cons, List.length_nil]; omega) ?_) | (refine ccA ([]) (c6) ?_) | (refine ccA ([]) (c7) ?_) | (refine Exists.intro (wtN s).length (And.intro l7 ?_)) | (refine z0G hs ?_) | (refine z0b fw ?_) | (refine And.intro (by simp only [List.length_append, List.length_set, List.length_replicate, List.length_cons, List.length_nil, List.nil_append]; omega) ?_) | (refine And.intro (by kernel_rfl) ?_) | (refine stpQ ?_))
 (refine z00 (by rfl) ?_ ?_ (by rfl)) <;> (repeat' (first | (exact eqA) | (refine And.intro ?_ ?_) | ((fail_if_success (with_reducible (show _ = _))); (show _ = _)))) <;> first | rfl | exact hap.symm | (simp; done)
end
theorem zhW (a K : Int) (ts : List Bs) (s : Sv) (u : Ch) {n : Nat} (g : SvOk n s) (hn : n ≤ 80) (h : Rec 89 ts) (hu : z0h u.1 u.2.1 u.2.2 = true) : CT Tryz.prog 23 [] [.agg (svE a K true (dkOf shardN ts) (vwE s.vs) s), .agg (chL u)] (.tup [.agg (svE a K true (dkOf shardN (tkT a K ts s u)) (vwE (tkS a K s u).vs) (tkS a K s u)), .int .i64 (tkC a K s u)]) [] := by
 have eT : ∀ b, tkB a K s u = b → tkT a K ts s u = (if b = true then ts ++ [1 :: z3h u] else ts) := fun b hb => by rw [tkT, hb]
 have eS : ∀ b, tkB a K s u = b → tkS a K s u = (if b = true then { s with al := s.al ++ [u] } else s) := fun b hb => by rw [tkS, hb]
 by_cases hs : (z1L u.2.1 K : Int) = a
 rotate_left
 ·have hb : tkB a K s u = false := by rw [tkB, decide_eq_false hs]; rfl
  rw [eT _ hb, eS _ hb, if_neg (by decide), if_neg (by decide), tkC, if_pos hs]
  exact zhE a K ts s u g hn h hu hs
 cases hk : idIx s.al u.1 with
 | some k =>
   have hb : tkB a K s u = false := by rw [tkB, hk]; simp
   rw [eT _ hb, eS _ hb, if_neg (by decide), if_neg (by decide), tkC, if_neg (fun c => c hs), hk]
   by_cases hq : chAt s.al k = u
   ·simp only
    rw [if_pos hq]
    exact zhG a K ts s u g hn h hu hs hk hq
   ·simp only
    rw [if_neg hq]
    exact zhF a K ts s u g hn h hu hs hk hq
 | none =>
   by_cases hw : (wtN s).length < 12
   ·have hb : tkB a K s u = true := by rw [tkB, decide_eq_true hs, decide_eq_true hk, decide_eq_true hw]; rfl
    rw [eT _ hb, eS _ hb, if_pos rfl, if_pos rfl, tkC, if_neg (fun c => c hs), hk]
    simp only
    rw [if_pos hw]
    exact zhJ a K ts s u g hn h hu hs hk hw
   ·have hb : tkB a K s u = false := by rw [tkB, decide_eq_false hw, Bool.and_false, Bool.and_false]
    rw [eT _ hb, eS _ hb, if_neg (by decide), if_neg (by decide), tkC, if_neg (fun c => c hs), hk]
    simp only
    rw [if_neg hw]
    exact zhH a K ts s u g hn h hu hs hk hw
end Go.Proofs.YthbdlnogojcnmaaGreatDoor
namespace Go.Proofs.YthbdlnogojcnmaaGreatDoor
set_option maxRecDepth 100000
set_option maxHeartbeats 16000000
set_option linter.unusedVariables false
set_option linter.unusedSimpArgs false
set_option linter.unusedSectionVars false
open Go.RowKit Pl
theorem vz_re {ow : Own} {w : World} {z : List Lf} {vs : List (List Lf)} (hz : z = []) (v : Value) (h : RV ow w (.sl 1 (vwZ true (z :: vs))) v) : RV ow w (.sl 1 (vwE (z :: vs))) v := by
 subst hz
 have e1 : vwZ true ([] :: vs) = [.val nilV] :: vwE vs := rfl
 have e2 : vwE ([] :: vs) = [.sl 2 []] :: vwE vs := rfl
 rw [e1] at h
 rw [e2]
 simp only [RV] at h ⊢
 obtain ⟨A, c, rfl, hc, hE⟩ := h
 refine ⟨A, c, rfl, hc, ?_⟩
 rcases hE with hE | ⟨g, o, C, t, fr, rfl, hg, hC, hr⟩
 ·cases hE
 ·refine .inr ⟨g, o, C, t, fr, rfl, hg, hC, ?_⟩
  simp only [RE] at hr ⊢
  obtain ⟨us, rest, h1, h2, h3, h4⟩ := hr
  refine ⟨us, rest, h1, h2, ?_, h4⟩
  simp only [RL] at h3 ⊢
  obtain ⟨u, us', h5, h6, h7⟩ := h3
  refine ⟨u, us', h5, ?_, h7⟩
  simp only [RV] at h6 ⊢
  exact ⟨none, 0, h6.1, Nat.le_refl _, .inl trivial⟩
theorem zhP {X : Cx} : ∀ {cs : List T} {vs : List Value} (i : Nat) {c c' : T}, RSl X cs vs → cs[i]? = some c → (∀ u, RS0 X c u → RS0 X c' u) → RSl X (cs.set i c') vs
 | [], _, i, c, c', h, hc, _ => by simp at hc
 | c0 :: cs, _, i, c, c', ⟨u, us, hv, h1, h2, h3⟩, hc, hf => by
   subst hv
   cases i with
   | zero => simp at hc; subst hc; exact ⟨u, us, rfl, h1, hf u h2, h3⟩
   | succ i => simp at hc; exact ⟨u, us, rfl, h1, h2, zhP i h3 hc hf⟩
theorem zhM (a K : Int) {m : Nat} {ts : List Bs} {s : Sv} (h : LogOk a K m ts s) (hm : m ≤ 80) : CT Tryz.prog 49 [] [.int .i64 a, .int .i64 K, .agg [.sl 3 (flE (dkOf shardN ts))]] (.agg (svE a K true (dkOf shardN ts) (vwE s.vs) s)) [] := by
 have c := za9 a K (dkOf shardN ts) (z2l (z2p (n := shardN) (by decide) (h.rc.up (by omega))))
 rw [zhU h (by omega)] at c
 have hz : vAt s.vs 0 = [] := by rw [h.sv]; exact zeE a K ts
 have hl : 0 < s.vs.length := by have := h.ok.vl; omega
 refine zhO c fun X v hr => ?_
 obtain ⟨vs', hv, hl2⟩ := hr
 refine ⟨vs', hv, ?_⟩
 have e : svE a K true (dkOf shardN ts) (vwE s.vs) s = (svE a K true (dkOf shardN ts) (vwZ true s.vs) s).set 5 (.sl 1 (vwE s.vs)) := rfl
 rw [e]
 refine zhP 5 hl2 rfl fun u hu => ?_
 cases hvs : s.vs with
 | nil => rw [hvs] at hl; exact absurd hl (Nat.lt_irrefl _)
 | cons z vs =>
   rw [hvs] at hu hz
   exact vz_re hz u hu
section
attribute [local irreducible] z0p z0r z0y AnsP LeP W CvE z0J
theorem zhK (x : Int) (hd : z1b [] = true) (hB : FlB []) : CT Tryz.prog 102 [] [.agg [.sl 3 (flE [])], .sl 1 [[.int .i64 x]]] (.tup [.agg [.sl 3 (flE [])], .bool true]) [] := by
 have c1 := z2Q _ (z2l hB)
 rw [hd] at c1
 have c2 := z2T [] (by simp)
 have f1 : ¬ (0 : Int) < ((0 : Nat) : Int) := by decide
 clear hd hB
 unfold flE at *
 simp only [List.map_cons, List.map_nil] at *
 refine z01 z0j 1 rfl Tryz.func102 rfl rfl rfl ?_
 conv => arg 6; whnf
 repeat ((try conv => whnf); first | (with_reducible first | refine z0e (fun Qs hN hE hR => ?_) | refine z0c ?_ | refine z05 (fun Qb kN kE kX kR => ?_) | refine z07 ?_ | refine z08 ?_ | refine z0d ?_ | refine z09 ?_ | refine z0a ?_ | (show W _ _ _ (.cond _ _ _) _ _; refine z06 rfl ?_) | (refine hN _ ?_; try clear hN hE hR Qs; (try (conv => arg 6; dsimp only [ovl, List.set, List.map, ren0]))) | ((first | refine hE _ _ ?_ | refine hR _ ?_); try clear hN hE hR Qs) | ((first | refine kN _ ?_ | refine kE _ ?_ | refine kX _ _ rfl ?_ | refine kR _ ?_); try clear kN kE kX kR Qb)) | (refine ccA ([]) (c1) ?_) | (refine ccA ([]) (c2) ?_) | (refine Exists.intro 0 (And.intro rfl ?_)) | (refine And.intro (by kernel_rfl) ?_) | (refine stpQ ?_))
 refine z0t 0 ⟨[(4, .ptr 1 0 0), (6, .ptr 2 0 0)], [(1, some (.box [.val nilV])), (2, some (.box [.ref 3])), (3, some (.row 3 []))], 4⟩ Nat (fun i => ⟨[(1, .sl 1 [[.int .i64 x]]), (4, .ptr 1 0 0), (6, .ptr 2 0 0), (18, .int .i64 ((0 : Nat) : Int)), (19, .int .i64 0)], [(1, some (.box [.val nilV])), (2, some (.box [.ref 3])), (3, some (.row 3 []))], 4⟩) (fun i => True) (fun i => 0) 0 trivial ?_ ?_ ?_
 ·(refine z04 (by rfl) ?_ ?_) <;> (repeat' (first | (exact eqA) | (refine And.intro ?_ ?_) | ((fail_if_success (with_reducible (show _ = _))); (show _ = _)))) <;> first | rfl | decide
 ·intro i hi
  repeat ((try conv => whnf); first | (with_reducible first | refine z0e (fun Qs hN hE hR => ?_) | refine z0c ?_ | refine z05 (fun Qb kN kE kX kR => ?_) | refine z07 ?_ | refine z08 ?_ | refine z0d ?_ | refine z09 ?_ | refine z0a ?_ | (show W _ _ _ (.cond _ _ _) _ _; refine z06 rfl ?_) | (refine hN _ ?_; try clear hN hE hR Qs; (try (conv => arg 6; dsimp only [ovl, List.set, List.map, ren0]))) | ((first | refine hE _ _ ?_ | refine hR _ ?_); try clear hN hE hR Qs) | ((first | refine kN _ ?_ | refine kE _ ?_ | refine kX _ _ rfl ?_ | refine kR _ ?_); try clear kN kE kX kR Qb)) | (refine z0b f1 ?_) | (refine And.intro (by kernel_rfl) ?_) | (refine stpQ ?_))
  (refine z04 (by rfl) ?_ ?_) <;> (repeat' (first | (exact eqA) | (refine And.intro ?_ ?_) | ((fail_if_success (with_reducible (show _ = _))); (show _ = _)))) <;> rfl
 ·repeat ((try conv => whnf); first | (with_reducible first | refine z0e (fun Qs hN hE hR => ?_) | refine z0c ?_ | refine z05 (fun Qb kN kE kX kR => ?_) | refine z07 ?_ | refine z08 ?_ | refine z0d ?_ | refine z09 ?_ | refine z0a ?_ | (show W _ _ _ (.cond _ _ _) _ _; refine z06 rfl ?_) | (refine hN _ ?_; try clear hN hE hR Qs; (try (conv => arg 6; dsimp only [ovl, List.set, List.map, ren0]))) | ((first | refine hE _ _ ?_ | refine hR _ ?_); try clear hN hE hR Qs) | ((first | refine kN _ ?_ | refine kE _ ?_ | refine kX _ _ rfl ?_ | refine kR _ ?_); try clear kN kE kX kR Qb)) | (refine And.intro (by kernel_rfl) ?_) | (refine stpQ ?_))
  (refine z00 (by rfl) ?_ ?_ (by rfl)) <;> (repeat' (first | (exact eqA) | (refine And.intro ?_ ?_) | ((fail_if_success (with_reducible (show _ = _))); (show _ = _)))) <;> rfl
theorem zhL (x : Int) (n t : Bs) (ht : t.length ≤ 30000) (hd : z1b [(n, t, (t.length : Int))] = true) (hB : FlB [(n, t, (t.length : Int))]) : CT Tryz.prog 102 [] [.agg [.sl 3 (flE [(n, t, (t.length : Int))])], .sl 1 [[.int .i64 x]]] (.tup [.agg [.sl 3 (flE [(n, t, (t.length : Int))])], .bool true]) [] := by
 have c1 := z2Q _ (z2l hB)
 rw [hd] at c1
 have c2 := z2T [(n, t, (t.length : Int))] (by simp)
 have e1 : (if (t.length : Int) < x then (t.length : Int) else x) = (if (t.length : Int) < x then (t.length : Int) else x) := rfl
 obtain ⟨mn, hmn, hml⟩ : ∃ mn : Int, mn = (if (t.length : Int) < x then (t.length : Int) else x) ∧ mn ≤ (t.length : Int) := ⟨_, rfl, by split <;> omega⟩
 have emx : ((t.length : Nat) : Int) = (if ((t.length : Nat) : Int) > mn then ((t.length : Nat) : Int) else mn) := by split <;> omega
 have eT : t.take t.length = t := List.take_length
 have fl : (0 : Int) < ((1 : Nat) : Int) := by decide
 have fl2 : (0 : Int) < 1 := by decide
 have g0 : ([[.int .i64 x]] : List (List T))[0]? = some [.int .i64 x] := rfl
 clear hd hB
 unfold flE at *
 simp only [List.map_cons, List.map_nil] at *
 refine z01 z0j 1 rfl Tryz.func102 rfl rfl rfl ?_
 conv => arg 6; whnf
 repeat ((try conv => whnf); first | (with_reducible first | refine z0e (fun Qs hN hE hR => ?_) | refine z0c ?_ | refine z05 (fun Qb kN kE kX kR => ?_) | refine z07 ?_ | refine z08 ?_ | refine z0d ?_ | refine z09 ?_ | refine z0a ?_ | (show W _ _ _ (.cond _ _ _) _ _; refine z06 rfl ?_) | (refine hN _ ?_; try clear hN hE hR Qs; (try (conv => arg 6; dsimp only [ovl, List.set, List.map, ren0]))) | ((first | refine hE _ _ ?_ | refine hR _ ?_); try clear hN hE hR Qs) | ((first | refine kN _ ?_ | refine kE _ ?_ | refine kX _ _ rfl ?_ | refine kR _ ?_); try clear kN kE kX kR Qb)) | (refine ccA ([]) (c1) ?_) | (refine ccA ([]) (c2) ?_) | (refine Exists.intro 1 (And.intro rfl ?_)) | (refine And.intro (by kernel_rfl) ?_) | (refine stpQ ?_))
 refine z0t 0 ⟨[(4, .ptr 1 0 0), (6, .ptr 2 0 0)], [(1, some (.box [.val nilV])), (2, some (.box [.ref 3])), (3, some (.row 3 [[.str n, .str t, .int .i64 (t.length : Int)]]))], 4⟩ Nat (fun i => ⟨[(1, .sl 1 [[.int .i64 x]]), (4, .ptr 1 0 0), (6, .ptr 2 0 0), (18, .int .i64 ((1 : Nat) : Int)), (19, .int .i64 (i : Int))], [(1, some (.box [.val nilV])), (2, some (.box [.ref 3])), (3, some (.row 3 [[.str n, .str t, .int .i64 (t.length : Int)]]))], 4⟩) (fun i => i ≤ 1) (fun i => 1 - i) 0 (by decide) ?_ ?_ ?_
 ·(refine z04 (by rfl) ?_ ?_) <;> (repeat' (first | (exact eqA) | (refine And.intro ?_ ?_) | ((fail_if_success (with_reducible (show _ = _))); (show _ = _)))) <;> first | rfl | decide
 ·intro i hi
  by_cases hi0 : i = 0
  ·subst hi0
   repeat ((try conv => whnf); first | (with_reducible first | refine z0e (fun Qs hN hE hR => ?_) | refine z0c ?_ | refine z05 (fun Qb kN kE kX kR => ?_) | refine z07 ?_ | refine z08 ?_ | refine z0d ?_ | refine z09 ?_ | refine z0a ?_ | (show W _ _ _ (.cond _ _ _) _ _; refine z06 rfl ?_) | (refine hN _ ?_; try clear hN hE hR Qs; (try (conv => arg 6; dsimp only [ovl, List.set, List.map, ren0]))) | ((first | refine hE _ _ ?_ | refine hR _ ?_); try clear hN hE hR Qs) | ((first | refine kN _ ?_ | refine kE _ ?_ | refine kX _ _ rfl ?_ | refine kR _ ?_); try clear kN kE kX kR Qb)) | (refine z0g fl ?_) | (refine z0g fl2 ?_) | (refine Exists.intro 1 (And.intro rfl ?_)) | (refine i_at g0 ?_) | (refine Exists.intro _ (And.intro hmn ?_)) | (refine Exists.intro _ (And.intro emx ?_)) | (refine Exists.intro t.length (And.intro rfl (And.intro (Nat.le_refl _) ?_))) | (refine Exists.intro 0 (And.intro rfl (And.intro (by decide) ?_))) | (refine Exists.intro _ (And.intro rfl ?_)) | (refine And.intro (by kernel_rfl) ?_) | (refine stpQ ?_))
   refine ⟨1, by decide, by decide, ?_⟩
   rw [eT]
   (refine z04 (by rfl) ?_ ?_) <;> (repeat' (first | (exact eqA) | (refine And.intro ?_ ?_) | ((fail_if_success (with_reducible (show _ = _))); (show _ = _)))) <;> first | rfl | (simp; done)
  ·obtain rfl : i = 1 := by omega
   have f1 : ¬ ((1 : Nat) : Int) < ((1 : Nat) : Int) := by decide
   repeat ((try conv => whnf); first | (with_reducible first | refine z0e (fun Qs hN hE hR => ?_) | refine z0c ?_ | refine z05 (fun Qb kN kE kX kR => ?_) | refine z07 ?_ | refine z08 ?_ | refine z0d ?_ | refine z09 ?_ | refine z0a ?_ | (show W _ _ _ (.cond _ _ _) _ _; refine z06 rfl ?_) | (refine hN _ ?_; try clear hN hE hR Qs; (try (conv => arg 6; dsimp only [ovl, List.set, List.map, ren0]))) | ((first | refine hE _ _ ?_ | refine hR _ ?_); try clear hN hE hR Qs) | ((first | refine kN _ ?_ | refine kE _ ?_ | refine kX _ _ rfl ?_ | refine kR _ ?_); try clear kN kE kX kR Qb)) | (refine z0b f1 ?_) | (refine And.intro (by kernel_rfl) ?_) | (refine stpQ ?_))
   (refine z04 (by rfl) ?_ ?_) <;> (repeat' (first | (exact eqA) | (refine And.intro ?_ ?_) | ((fail_if_success (with_reducible (show _ = _))); (show _ = _)))) <;> rfl
 ·repeat ((try conv => whnf); first | (with_reducible first | refine z0e (fun Qs hN hE hR => ?_) | refine z0c ?_ | refine z05 (fun Qb kN kE kX kR => ?_) | refine z07 ?_ | refine z08 ?_ | refine z0d ?_ | refine z09 ?_ | refine z0a ?_ | (show W _ _ _ (.cond _ _ _) _ _; refine z06 rfl ?_) | (refine hN _ ?_; try clear hN hE hR Qs; (try (conv => arg 6; dsimp only [ovl, List.set, List.map, ren0]))) | ((first | refine hE _ _ ?_ | refine hR _ ?_); try clear hN hE hR Qs) | ((first | refine kN _ ?_ | refine kE _ ?_ | refine kX _ _ rfl ?_ | refine kR _ ?_); try clear kN kE kX kR Qb)) | (refine And.intro (by kernel_rfl) ?_) | (refine stpQ ?_))
  (refine z00 (by rfl) ?_ ?_ (by rfl)) <;> (repeat' (first | (exact eqA) | (refine And.intro ?_ ?_) | ((fail_if_success (with_reducible (show _ = _))); (show _ = _)))) <;> rfl
theorem zhQ (x : Int) (n : Bs) (hn : 1 ≤ n.length ∧ n.length ≤ 8) (ts : List Bs) (h : Rec 90 ts) : CT Tryz.prog 102 [] [.agg [.sl 3 (flE (dkOf n ts))], .sl 1 [[.int .i64 x]]] (.tup [.agg [.sl 3 (flE (dkOf n ts))], .bool true]) [] := by
 have r3 := ze7 hn h
 have r4 := z2p (n := n) hn.2 h
 have hl := h.len
 by_cases e : ts = []
 ·subst e
  rw [ze6] at r3 r4 ⊢
  exact zhK x r3 r4
 ·rw [z3T e] at r3 r4 ⊢
  exact zhL x n (logB ts) (by omega) r3 r4
theorem c_lost (x : Int) (n : Bs) (hn : 1 ≤ n.length ∧ n.length ≤ 8) (ts : List Bs) (h : Rec 90 ts) : CT Tryz.prog 55 [] [.agg [.sl 3 (flE (dkOf n ts))], .sl 1 [[.int .i64 x]]] (.agg [.sl 3 (flE (dkOf n ts))]) [] := by
 have c1 := zhQ x n hn ts h
 generalize flE (dkOf n ts) = d0 at *
 refine z01 z0j 1 rfl Tryz.func55 rfl rfl rfl ?_
 conv => arg 6; whnf
 repeat ((try conv => whnf); first | (with_reducible first | refine z0e (fun Qs hN hE hR => ?_) | refine z0c ?_ | refine z05 (fun Qb kN kE kX kR => ?_) | refine z07 ?_ | refine z08 ?_ | refine z0d ?_ | refine z09 ?_ | refine z0a ?_ | (show W _ _ _ (.cond _ _ _) _ _; refine z06 rfl ?_) | (refine hN _ ?_; try clear hN hE hR Qs; (try (conv => arg 6; dsimp only [ovl, List.set, List.map, ren0]))) | ((first | refine hE _ _ ?_ | refine hR _ ?_); try clear hN hE hR Qs) | ((first | refine kN _ ?_ | refine kE _ ?_ | refine kX _ _ rfl ?_ | refine kR _ ?_); try clear kN kE kX kR Qb)) | (refine ccA ([]) (c1) ?_) | (refine And.intro (by kernel_rfl) ?_) | (refine stpQ ?_))
 (refine z00 (by rfl) ?_ ?_ (by rfl)) <;> (repeat' (first | (exact eqA) | (refine And.intro ?_ ?_) | ((fail_if_success (with_reducible (show _ = _))); (show _ = _)))) <;> rfl
theorem c_Fall (a K : Int) (up : Bool) {m : Nat} {ts : List Bs} {s : Sv} (h : LogOk a K m ts s) (hm : m ≤ 80) (V : List (List T)) (x : Int) : CT Tryz.prog 21 [] [.agg (svE a K up (dkOf shardN ts) V s), .sl 1 [[.int .i64 x]]] (.agg (svE a K false (dkOf shardN ts) (vwE s.vs) s)) [] := by
 have c1 := c_lost x shardN (by decide) ts (h.rc.up (by omega))
 have c2 := zhM a K h hm
 unfold svE at *
 generalize flE (dkOf shardN ts) = d0 at *
 clear h
 refine z01 z0j 1 rfl Tryz.func21 rfl rfl rfl ?_
 conv => arg 6; whnf
 repeat ((try conv => whnf); first | (with_reducible first | refine z0e (fun Qs hN hE hR => ?_) | refine z0c ?_ | refine z05 (fun Qb kN kE kX kR => ?_) | refine z07 ?_ | refine z08 ?_ | refine z0d ?_ | refine z09 ?_ | refine z0a ?_ | (show W _ _ _ (.cond _ _ _) _ _; refine z06 rfl ?_) | (refine hN _ ?_; try clear hN hE hR Qs; (try (conv => arg 6; dsimp only [ovl, List.set, List.map, ren0]))) | ((first | refine hE _ _ ?_ | refine hR _ ?_); try clear hN hE hR Qs) | ((first | refine kN _ ?_ | refine kE _ ?_ | refine kX _ _ rfl ?_ | refine kR _ ?_); try clear kN kE kX kR Qb)) | (refine ccA ([]) (c1) ?_) | (refine ccA ([]) (c2) ?_) | (refine And.intro (by kernel_rfl) ?_) | (refine stpQ ?_))
 (refine z00 (by rfl) ?_ ?_ (by rfl)) <;> (repeat' (first | (exact eqA) | (refine And.intro ?_ ?_) | ((fail_if_success (with_reducible (show _ = _))); (show _ = _)))) <;> rfl
theorem c_Rise (a K : Int) {m : Nat} {ts : List Bs} {s : Sv} (h : LogOk a K m ts s) (hm : m ≤ 80) (V : List (List T)) : CT Tryz.prog 22 [] [.agg (svE a K false (dkOf shardN ts) V s)] (.agg (svE a K true (dkOf shardN ts) (vwE s.vs) s)) [] := by
 have c2 := zhM a K h hm
 unfold svE at *
 generalize flE (dkOf shardN ts) = d0 at *
 clear h
 refine z01 z0j 1 rfl Tryz.func22 rfl rfl rfl ?_
 conv => arg 6; whnf
 repeat ((try conv => whnf); first | (with_reducible first | refine z0e (fun Qs hN hE hR => ?_) | refine z0c ?_ | refine z05 (fun Qb kN kE kX kR => ?_) | refine z07 ?_ | refine z08 ?_ | refine z0d ?_ | refine z09 ?_ | refine z0a ?_ | (show W _ _ _ (.cond _ _ _) _ _; refine z06 rfl ?_) | (refine hN _ ?_; try clear hN hE hR Qs; (try (conv => arg 6; dsimp only [ovl, List.set, List.map, ren0]))) | ((first | refine hE _ _ ?_ | refine hR _ ?_); try clear hN hE hR Qs) | ((first | refine kN _ ?_ | refine kE _ ?_ | refine kX _ _ rfl ?_ | refine kR _ ?_); try clear kN kE kX kR Qb)) | (refine ccA ([]) (c2) ?_) | (refine And.intro (by kernel_rfl) ?_) | (refine stpQ ?_))
 (refine z00 (by rfl) ?_ ?_ (by rfl)) <;> (repeat' (first | (exact eqA) | (refine And.intro ?_ ?_) | ((fail_if_success (with_reducible (show _ = _))); (show _ = _)))) <;> rfl
end
end Go.Proofs.YthbdlnogojcnmaaGreatDoor
