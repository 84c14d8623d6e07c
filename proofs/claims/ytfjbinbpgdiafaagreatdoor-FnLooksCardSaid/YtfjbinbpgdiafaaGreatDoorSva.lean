/- Functions by content: the reference copies a shard, tells what waits, takes a change. -/
import Derived.Test.YtfjbinbpgdiafaaGreatDoorDk
import Derived.Test.YtfjbinbpgdiafaaGreatDoorSzd
import Derived.Test.YtfjbinbpgdiafaaGreatDoorPlh
namespace Go.Proofs.YtfjbinbpgdiafaaGreatDoor
set_option maxRecDepth 100000
set_option maxHeartbeats 8000000
set_option linter.unusedVariables false
set_option linter.unusedSimpArgs false
set_option linter.unusedSectionVars false
open Go.RowKit Pl
def svR (a K : Int) (up : Bool) (fs : List Fl) (s : Sv) : T := .agg [.int .i64 a, .int .i64 K, .bool up, .sl 3 (flE fs), .int .i64 (s.ep : Int), .ref 1, .ref 2, .ref 3, .int .i64 (s.re : Int), .int .i64 (s.rt : Int), .int .i64 (s.rk : Int)]
def svRw (s : Sv) : List Ent := [.row 1 (vwE s.vs), .row 1 (ntE s.tk), .row 3 (chE s.al)]
theorem vw_one (v : List Lf) : vwE [v] = [[.sl 2 (lvE v)]] := rfl
theorem zhi {l : List Ch} {n : Int} {k : Nat} (h : idIx l n = some k) : k < l.length := by
 rw [idIx, List.findIdx?_eq_some_iff_getElem] at h
 exact h.1
section
attribute [local irreducible] z0r z0s z0z AnsP LeP W
theorem z9h (a K : Int) (up : Bool) (fs : List Fl) (s : Sv) (hf : fs.length ≤ 1000) (h : s.vs.length ≤ 1000 ∧ s.tk.length ≤ 1000 ∧ s.al.length ≤ 1000 ∧ ∀ v ∈ s.vs, v.length ≤ 1000) : CT Tryz.prog 111 [] [.agg (svE a K up fs (vwE s.vs) s)] (svR a K up fs s) (svRw s) := by
 obtain ⟨ep, vs, tk, al, re, rt, rk⟩ := s
 unfold svR svRw svE
 simp only at h ⊢
 obtain ⟨h1, h2, h3, h4⟩ := h
 have l1 := z3D vs
 have l2 := z8X tk
 have l3 := z0R al
 have l4 := z2o fs
 refine z01 z0i 1 rfl Tryz.func111 rfl rfl rfl ?_
 conv => arg 6; whnf
 repeat ((try conv => whnf); first | (with_reducible first | refine z0f (fun Qs hN hE hR => ?_) | refine z0d ?_ | refine z04 (fun Qb kN kE kX kR => ?_) | refine z06 ?_ | refine z07 ?_ | refine z0e ?_ | refine z08 ?_ | refine z09 ?_ | (show W _ _ _ (.cond _ _ _) _ _; refine z05 rfl ?_) | (refine hN _ ?_; try clear hN hE hR Qs) | ((first | refine hE _ _ ?_ | refine hR _ ?_); try clear hN hE hR Qs) | ((first | refine kN _ ?_ | refine kE _ ?_ | refine kX _ _ rfl ?_ | refine kR _ ?_); try clear kN kE kX kR Qb)) | (refine And.intro (by simp only [List.length_append, List.length_set, List.length_replicate, List.length_cons, List.length_nil, List.nil_append]; omega) ?_) | (refine And.intro (by kernel_rfl) ?_) | (refine stpQ ?_))
 refine z0l 0 ⟨[(1, .ptr 1 0 0), (2, .ptr 2 0 0), (3, .ptr 3 0 0)], [(1, some (.box [.int .i64 a, .int .i64 K, .bool up, .sl 3 (flE fs), .int .i64 (ep : Int), .sl 1 (vwE vs), .sl 1 (ntE tk), .sl 3 (chE al), .int .i64 (re : Int), .int .i64 (rt : Int), .int .i64 (rk : Int)])), (2, some (.box [.int .i64 0, .int .i64 0, .bool false, .val nilV, .int .i64 0, .val nilV, .val nilV, .val nilV, .int .i64 0, .int .i64 0, .int .i64 0])), (3, some (.box [.int .i64 a, .int .i64 K, .bool up, .sl 3 (flE fs), .int .i64 (ep : Int), .ref 4, .sl 1 (ntE tk), .sl 3 (chE al), .int .i64 (re : Int), .int .i64 (rt : Int), .int .i64 (rk : Int)])), (4, some (.row 1 (vwE vs)))], 5⟩ Nat (fun i => ⟨[(1, .ptr 1 0 0), (2, .ptr 2 0 0), (3, .ptr 3 0 0), (4, .int .i64 (i : Int))], [(1, some (.box [.int .i64 a, .int .i64 K, .bool up, .sl 3 (flE fs), .int .i64 (ep : Int), .sl 1 (vwE vs), .sl 1 (ntE tk), .sl 3 (chE al), .int .i64 (re : Int), .int .i64 (rt : Int), .int .i64 (rk : Int)])), (2, some (.box [.int .i64 0, .int .i64 0, .bool false, .val nilV, .int .i64 0, .val nilV, .val nilV, .val nilV, .int .i64 0, .int .i64 0, .int .i64 0])), (3, some (.box [.int .i64 a, .int .i64 K, .bool up, .sl 3 (flE fs), .int .i64 (ep : Int), .ref 4, .sl 1 (ntE tk), .sl 3 (chE al), .int .i64 (re : Int), .int .i64 (rt : Int), .int .i64 (rk : Int)])), (4, some (.row 1 (vwE (vs.take i))))], 5⟩) (fun i => i ≤ vs.length) (fun i => vs.length - i) 0 (Nat.zero_le _) ?_ ?_ ?_
 ·(refine z02 (by rfl) ?_ ?_) <;> (repeat' (first | (exact eqA) | (refine And.intro ?_ ?_) | ((fail_if_success (with_reducible (show _ = _))); (show _ = _)))) <;> first | rfl | (simp; done)
 ·intro i hi
  by_cases hlt : i < vs.length
  ·have f1 : (i : Int) < ((vwE vs).length : Int) := by omega
   have f2 : i < (vwE vs).length := by omega
   have gi := z78 hlt
   have hn := zad vs i hlt
   have hv : (vAt vs i).length ≤ 1000 := by rw [zfz hlt]; exact h4 _ (List.getElem_mem hlt)
   have hlv := z0B (vAt vs i)
   have hw : (vwE (vs.take i)).length ≤ 1000 := by rw [z3D, List.length_take]; omega
   generalize vAt vs i = v at *
   repeat ((try conv => whnf); first | (with_reducible first | refine z0f (fun Qs hN hE hR => ?_) | refine z0d ?_ | refine z04 (fun Qb kN kE kX kR => ?_) | refine z06 ?_ | refine z07 ?_ | refine z0e ?_ | refine z08 ?_ | refine z09 ?_ | (show W _ _ _ (.cond _ _ _) _ _; refine z05 rfl ?_) | (refine hN _ ?_; try clear hN hE hR Qs) | ((first | refine hE _ _ ?_ | refine hR _ ?_); try clear hN hE hR Qs) | ((first | refine kN _ ?_ | refine kE _ ?_ | refine kX _ _ rfl ?_ | refine kR _ ?_); try clear kN kE kX kR Qb)) | (refine z0h f1 ?_) | (refine i_at gi ?_) | (refine And.intro f2 ?_) | (refine Exists.intro _ (And.intro gi ?_)) | (refine And.intro (by simp only [List.length_append, List.length_set, List.length_replicate, List.length_cons, List.length_nil, List.nil_append]; omega) ?_) | (refine And.intro (by kernel_rfl) ?_) | (refine stpQ ?_))
   refine ⟨i + 1, (by (try dsimp only); omega), (by (try dsimp only); omega), ?_⟩
   simp only
   rw [hn, zg5, vw_one]
   (refine z02 (by rfl) ?_ ?_) <;> (repeat' (first | (exact eqA) | (refine And.intro ?_ ?_) | ((fail_if_success (with_reducible (show _ = _))); (show _ = _)))) <;> rfl
  ·obtain rfl : i = vs.length := by omega
   have f1 : ¬ (vs.length : Int) < ((vwE vs).length : Int) := by omega
   repeat ((try conv => whnf); first | (with_reducible first | refine z0f (fun Qs hN hE hR => ?_) | refine z0d ?_ | refine z04 (fun Qb kN kE kX kR => ?_) | refine z06 ?_ | refine z07 ?_ | refine z0e ?_ | refine z08 ?_ | refine z09 ?_ | (show W _ _ _ (.cond _ _ _) _ _; refine z05 rfl ?_) | (refine hN _ ?_; try clear hN hE hR Qs) | ((first | refine hE _ _ ?_ | refine hR _ ?_); try clear hN hE hR Qs) | ((first | refine kN _ ?_ | refine kE _ ?_ | refine kX _ _ rfl ?_ | refine kR _ ?_); try clear kN kE kX kR Qb)) | (refine z0c f1 ?_) | (refine And.intro (by kernel_rfl) ?_) | (refine stpQ ?_))
   rw [List.take_length]
   (refine z02 (by rfl) ?_ ?_) <;> (repeat' (first | (exact eqA) | (refine And.intro ?_ ?_) | ((fail_if_success (with_reducible (show _ = _))); (show _ = _)))) <;> rfl
 ·repeat ((try conv => whnf); first | (with_reducible first | refine z0f (fun Qs hN hE hR => ?_) | refine z0d ?_ | refine z04 (fun Qb kN kE kX kR => ?_) | refine z06 ?_ | refine z07 ?_ | refine z0e ?_ | refine z08 ?_ | refine z09 ?_ | (show W _ _ _ (.cond _ _ _) _ _; refine z05 rfl ?_) | (refine hN _ ?_; try clear hN hE hR Qs) | ((first | refine hE _ _ ?_ | refine hR _ ?_); try clear hN hE hR Qs) | ((first | refine kN _ ?_ | refine kE _ ?_ | refine kX _ _ rfl ?_ | refine kR _ ?_); try clear kN kE kX kR Qb)) | (refine And.intro (by simp only [List.length_append, List.length_set, List.length_replicate, List.length_cons, List.length_nil, List.nil_append]; omega) ?_) | (refine And.intro (by kernel_rfl) ?_) | (refine stpQ ?_))
  (refine z00 (by rfl) ?_ ?_ (by rfl)) <;> (repeat' (first | (exact eqA) | (refine And.intro ?_ ?_) | ((fail_if_success (with_reducible (show _ = _))); (show _ = _)))) <;> first | rfl | (simp; done)
theorem zfC (a K : Int) (up : Bool) (fs : List Fl) (V : List (List T)) (s : Sv) (ht : 0 < s.tk.length ∧ s.tk.length ≤ 1000) (hl : z3f s.tk ≤ s.al.length ∧ s.al.length ≤ 1000) : CT Tryz.prog 152 [] [.agg (svE a K up fs V s)] (.sl 3 (chE (wtN s))) [] := by
 unfold wtN
 obtain ⟨ep, vs, tk, al, re, rt, rk⟩ := s
 unfold svE
 simp only at ht hl ⊢
 have g := ze6 ht.1
 have l2 := z8X tk
 have l3 := z0R al
 generalize z3f tk = x at *
 have fk : ((ntE tk).length : Int) > 0 := by omega
 have f3 : tk.length - 1 < (ntE tk).length := by omega
 generalize hK : tk.length = m at *
 refine z01 z0i 1 rfl Tryz.func152 rfl rfl rfl ?_
 conv => arg 6; whnf
 repeat ((try conv => whnf); first | (with_reducible first | refine z0f (fun Qs hN hE hR => ?_) | refine z0d ?_ | refine z04 (fun Qb kN kE kX kR => ?_) | refine z06 ?_ | refine z07 ?_ | refine z0e ?_ | refine z08 ?_ | refine z09 ?_ | (show W _ _ _ (.cond _ _ _) _ _; refine z05 rfl ?_) | (refine hN _ ?_; try clear hN hE hR Qs) | ((first | refine hE _ _ ?_ | refine hR _ ?_); try clear hN hE hR Qs) | ((first | refine kN _ ?_ | refine kE _ ?_ | refine kX _ _ rfl ?_ | refine kR _ ?_); try clear kN kE kX kR Qb)) | (refine z0h fk ?_) | (refine Exists.intro m (And.intro l2 ?_)) | (refine i_at g ?_) | (refine And.intro f3 ?_) | (refine Exists.intro _ (And.intro g ?_)) | (refine And.intro (by kernel_rfl) ?_) | (refine stpQ ?_))
 refine z0l 0 ⟨[(3, .ref 2)], [(2, some (.row 3 (chE (al.drop x))))], 3⟩ Nat (fun j => ⟨[(1, .ptr 1 0 0), (3, .ref 2), (5, .int .i64 ((x + j : Nat) : Int))], [(1, some (.box [.int .i64 a, .int .i64 K, .bool up, .sl 3 (flE fs), .int .i64 (ep : Int), .sl 1 V, .sl 1 (ntE tk), .sl 3 (chE al), .int .i64 (re : Int), .int .i64 (rt : Int), .int .i64 (rk : Int)])), (2, some (.row 3 (chE ((al.drop x).take j))))], 3⟩) (fun j => x + j ≤ al.length) (fun j => al.length - (x + j)) 0 (by omega) ?_ ?_ ?_
 ·(refine z02 (by rfl) ?_ ?_) <;> (repeat' (first | (exact eqA) | (refine And.intro ?_ ?_) | ((fail_if_success (with_reducible (show _ = _))); (show _ = _)))) <;> first | rfl | (simp; done)
 ·intro j hj
  have f0 : ((x + j : Nat) : Int) ≥ 0 := by omega
  by_cases hlt : x + j < al.length
  ·have f1 : ((x + j : Nat) : Int) < ((chE al).length : Int) := by omega
   have f2 : x + j < (chE al).length := by omega
   have gi := z3A hlt
   have hn : (al.drop x).take (j + 1) = (al.drop x).take j ++ [chAt al (x + j)] := by
    rw [List.take_add_one, List.getElem?_drop, List.getElem?_eq_getElem hlt, z9R hlt]
    rfl
   have hw : (chE ((al.drop x).take j)).length ≤ 1000 := by rw [z0R, List.length_take]; omega
   repeat ((try conv => whnf); first | (with_reducible first | refine z0f (fun Qs hN hE hR => ?_) | refine z0d ?_ | refine z04 (fun Qb kN kE kX kR => ?_) | refine z06 ?_ | refine z07 ?_ | refine z0e ?_ | refine z08 ?_ | refine z09 ?_ | (show W _ _ _ (.cond _ _ _) _ _; refine z05 rfl ?_) | (refine hN _ ?_; try clear hN hE hR Qs) | ((first | refine hE _ _ ?_ | refine hR _ ?_); try clear hN hE hR Qs) | ((first | refine kN _ ?_ | refine kE _ ?_ | refine kX _ _ rfl ?_ | refine kR _ ?_); try clear kN kE kX kR Qb)) | (refine z0h f0 ?_) | (refine z0h f1 ?_) | (refine i_at gi ?_) | (refine And.intro f2 ?_) | (refine Exists.intro _ (And.intro gi ?_)) | (refine And.intro (by simp only [List.length_append, List.length_set, List.length_replicate, List.length_cons, List.length_nil, List.nil_append]; omega) ?_) | (refine And.intro (by kernel_rfl) ?_) | (refine stpQ ?_))
   refine ⟨j + 1, (by (try dsimp only); omega), (by (try dsimp only); omega), ?_⟩
   simp only
   rw [hn, ze5]
   (refine z02 (by rfl) ?_ ?_) <;> (repeat' (first | (exact eqA) | (refine And.intro ?_ ?_) | ((fail_if_success (with_reducible (show _ = _))); (show _ = _)))) <;> rfl
  ·have hje : x + j = al.length := by omega
   have f1 : ¬ ((x + j : Nat) : Int) < ((chE al).length : Int) := by omega
   have he : (al.drop x).take j = al.drop x := List.take_of_length_le (by rw [List.length_drop]; omega)
   rw [he]
   repeat ((try conv => whnf); first | (with_reducible first | refine z0f (fun Qs hN hE hR => ?_) | refine z0d ?_ | refine z04 (fun Qb kN kE kX kR => ?_) | refine z06 ?_ | refine z07 ?_ | refine z0e ?_ | refine z08 ?_ | refine z09 ?_ | (show W _ _ _ (.cond _ _ _) _ _; refine z05 rfl ?_) | (refine hN _ ?_; try clear hN hE hR Qs) | ((first | refine hE _ _ ?_ | refine hR _ ?_); try clear hN hE hR Qs) | ((first | refine kN _ ?_ | refine kE _ ?_ | refine kX _ _ rfl ?_ | refine kR _ ?_); try clear kN kE kX kR Qb)) | (refine z0h f0 ?_) | (refine z0c f1 ?_) | (refine And.intro (by kernel_rfl) ?_) | (refine stpQ ?_))
   (refine z02 (by rfl) ?_ ?_) <;> (repeat' (first | (exact eqA) | (refine And.intro ?_ ?_) | ((fail_if_success (with_reducible (show _ = _))); (show _ = _)))) <;> rfl
 ·repeat ((try conv => whnf); first | (with_reducible first | refine z0f (fun Qs hN hE hR => ?_) | refine z0d ?_ | refine z04 (fun Qb kN kE kX kR => ?_) | refine z06 ?_ | refine z07 ?_ | refine z0e ?_ | refine z08 ?_ | refine z09 ?_ | (show W _ _ _ (.cond _ _ _) _ _; refine z05 rfl ?_) | (refine hN _ ?_; try clear hN hE hR Qs) | ((first | refine hE _ _ ?_ | refine hR _ ?_); try clear hN hE hR Qs) | ((first | refine kN _ ?_ | refine kE _ ?_ | refine kX _ _ rfl ?_ | refine kR _ ?_); try clear kN kE kX kR Qb)) | (refine stpQ ?_))
  (refine z00 (by rfl) ?_ ?_ (by rfl)) <;> (repeat' (first | (exact eqA) | (refine And.intro ?_ ?_) | ((fail_if_success (with_reducible (show _ = _))); (show _ = _)))) <;> first | rfl | (simp; done)
theorem z82 (a K : Int) (ts : List Bs) (s : Sv) (u : Ch) {n : Nat} (g : SvOk n s) (hn : n ≤ 80) (h : Rec 89 ts) (hu : z0g u.1 u.2.1 u.2.2 = true) (hv : ∀ v ∈ s.vs, v.length ≤ 1000) : CT Tryz.prog 99 [] [.agg (svE a K true (dkOf shardN ts) (vwE s.vs) s), .agg (chL u)] (.tup [svR a K true (dkOf shardN (tkT a K ts s u)) (tkS a K s u), .any]) (svRw (tkS a K s u)) := by
 have hl := zbo g
 have hgl := g.al
 have hgt := g.tl
 have hgv := g.vl
 have hge := g.ep
 have huf : z52 u := by have := za4 (us := [u]) (fun x hx => by rw [List.mem_singleton.1 hx]; exact hu) 0; exact this
 have hux : (1 ≤ (1 :: z3d u).length ∧ (1 :: z3d u).length ≤ 200) ∧ u.2.1.length ≤ 12 := by
  unfold z3d
  rw [hu]
  have h2 := hu
  unfold z0g at h2
  simp only [Bool.and_eq_true, decide_eq_true_eq] at h2
  obtain ⟨m, hm⟩ : ∃ m : Nat, u.1 = m := ⟨u.1.toNat, by omega⟩
  have := zbp (id := m) (n := u.2.1) (v := u.2.2) (by rw [← hm]; exact hu)
  rw [← hm] at this
  exact ⟨this, z0D h2.1.2⟩
 have c1 := z9h a K true (dkOf shardN ts) s (by have := (z67 (n := shardN) (by decide) (h.up (by decide : 89 ≤ 90))).1; omega) ⟨by omega, by omega, by omega, hv⟩
 have c2 := z9Q u huf
 rw [hu] at c2
 have c3 := z3q u.2.1 K (by omega)
 have c4 := zfj s.al u.1 (by omega)
 have c5 := z7G u huf
 have c6 := zfC a K true (dkOf shardN ts) (vwE s.vs) s ⟨by omega, by omega⟩ ⟨hl, by omega⟩
 have c7 := z3r a K true (vwE s.vs) s (1 :: z3d u) ts hux.1 h
 have hwl : (wtN s).length ≤ 80 := by unfold wtN; rw [List.length_drop]; omega
 have l7 := z0R (wtN s)
 have hct : (z3d u).length ≤ 200 := by have := hux.1.2; simp only [List.length_cons] at this; omega
 have hT : ∀ b, tkB a K s u = b → tkT a K ts s u = (if b = true then ts ++ [1 :: z3d u] else ts) := fun b hb => by rw [tkT, hb]
 have hS : ∀ b, tkB a K s u = b → tkS a K s u = (if b = true then { s with al := s.al ++ [u] } else s) := fun b hb => by rw [tkS, hb]
 clear hl g hv h hux
 by_cases hs : (z18 u.2.1 K : Int) = a
 rotate_left
 ·have hb : tkB a K s u = false := by rw [tkB, decide_eq_false hs]; rfl
  rw [hT _ hb, hS _ hb, if_neg (by decide), if_neg (by decide)]
  clear hT hS hb c4 c5 c6 c7
  have l3 := z0R s.al
  obtain ⟨ui, un, uv⟩ := u
  obtain ⟨ep, vs, tk, al, re, rt, rk⟩ := s
  (try unfold svR at *); (try unfold svRw at *); (try unfold svE at *); (try unfold svH at *); (try unfold svB at *); (try unfold chL at *)
  simp only at *
  generalize dkOf shardN ts = d0 at *
  refine z01 z0i 1 rfl Tryz.func99 rfl rfl rfl ?_
  conv => arg 6; whnf
  repeat ((try conv => whnf); first | (with_reducible first | refine z0f (fun Qs hN hE hR => ?_) | refine z0d ?_ | refine z04 (fun Qb kN kE kX kR => ?_) | refine z06 ?_ | refine z07 ?_ | refine z0e ?_ | refine z08 ?_ | refine z09 ?_ | (show W _ _ _ (.cond _ _ _) _ _; refine z05 rfl ?_) | (refine hN _ ?_; try clear hN hE hR Qs) | ((first | refine hE _ _ ?_ | refine hR _ ?_); try clear hN hE hR Qs) | ((first | refine kN _ ?_ | refine kE _ ?_ | refine kX _ _ rfl ?_ | refine kR _ ?_); try clear kN kE kX kR Qb)) | (refine ccA ([]) (c1) ?_) | (refine ccA ([]) (c2) ?_) | (refine ccA ([]) (c3) ?_) | (refine z2M hs ?_) | (refine And.intro (by kernel_rfl) ?_) | (refine stpQ ?_))
  (refine z00 (by rfl) ?_ ?_ (by rfl)) <;> (repeat' (first | (exact eqA) | (refine And.intro ?_ ?_) | ((fail_if_success (with_reducible (show _ = _))); (show _ = _)))) <;> first | rfl | exact hap.symm | (simp; done)
 by_cases hi : idIx s.al u.1 = none
 rotate_left
 ·have hb : tkB a K s u = false := by rw [tkB, decide_eq_false hi, Bool.false_and, Bool.and_false]
  rw [hT _ hb, hS _ hb, if_neg (by decide), if_neg (by decide)]
  obtain ⟨k, hk⟩ := Option.ne_none_iff_exists'.1 hi
  rw [hk] at c4
  have hkl := zhi hk
  have gk := z3A hkl
  have fk : (k : Int) ≥ 0 := by omega
  have fk2 : k < (chE s.al).length := by rw [z0R]; exact hkl
  clear hT hS hb c5 c6 c7
  by_cases hq : eqC [.int .i64 (chAt s.al k).1, .str (chAt s.al k).2.1, .str (chAt s.al k).2.2] [.int .i64 u.1, .str u.2.1, .str u.2.2] = true
  ·have l3 := z0R s.al
   obtain ⟨ui, un, uv⟩ := u
   obtain ⟨ep, vs, tk, al, re, rt, rk⟩ := s
   (try unfold svR at *); (try unfold svRw at *); (try unfold svE at *); (try unfold svH at *); (try unfold svB at *); (try unfold chL at *)
   simp only at *
   generalize dkOf shardN ts = d0 at *
   refine z01 z0i 1 rfl Tryz.func99 rfl rfl rfl ?_
   conv => arg 6; whnf
   repeat ((try conv => whnf); first | (with_reducible first | refine z0f (fun Qs hN hE hR => ?_) | refine z0d ?_ | refine z04 (fun Qb kN kE kX kR => ?_) | refine z06 ?_ | refine z07 ?_ | refine z0e ?_ | refine z08 ?_ | refine z09 ?_ | (show W _ _ _ (.cond _ _ _) _ _; refine z05 rfl ?_) | (refine hN _ ?_; try clear hN hE hR Qs) | ((first | refine hE _ _ ?_ | refine hR _ ?_); try clear hN hE hR Qs) | ((first | refine kN _ ?_ | refine kE _ ?_ | refine kX _ _ rfl ?_ | refine kR _ ?_); try clear kN kE kX kR Qb)) | (refine ccA ([]) (c1) ?_) | (refine ccA ([]) (c2) ?_) | (refine ccA ([]) (c3) ?_) | (refine z1g hs ?_) | (refine ccA ([]) (c4) ?_) | (refine z0h fk ?_) | (refine i_at gk ?_) | (refine And.intro fk2 ?_) | (refine Exists.intro _ (And.intro gk ?_)) | (refine cb_t hq ?_) | (refine And.intro (by kernel_rfl) ?_) | (refine stpQ ?_))
   (refine z00 (by rfl) ?_ ?_ (by rfl)) <;> (repeat' (first | (exact eqA) | (refine And.intro ?_ ?_) | ((fail_if_success (with_reducible (show _ = _))); (show _ = _)))) <;> first | rfl | exact hap.symm | (simp; done)
  ·have hq2 := eq_false_of_ne_true hq
   have l3 := z0R s.al
   obtain ⟨ui, un, uv⟩ := u
   obtain ⟨ep, vs, tk, al, re, rt, rk⟩ := s
   (try unfold svR at *); (try unfold svRw at *); (try unfold svE at *); (try unfold svH at *); (try unfold svB at *); (try unfold chL at *)
   simp only at *
   generalize dkOf shardN ts = d0 at *
   refine z01 z0i 1 rfl Tryz.func99 rfl rfl rfl ?_
   conv => arg 6; whnf
   repeat ((try conv => whnf); first | (with_reducible first | refine z0f (fun Qs hN hE hR => ?_) | refine z0d ?_ | refine z04 (fun Qb kN kE kX kR => ?_) | refine z06 ?_ | refine z07 ?_ | refine z0e ?_ | refine z08 ?_ | refine z09 ?_ | (show W _ _ _ (.cond _ _ _) _ _; refine z05 rfl ?_) | (refine hN _ ?_; try clear hN hE hR Qs) | ((first | refine hE _ _ ?_ | refine hR _ ?_); try clear hN hE hR Qs) | ((first | refine kN _ ?_ | refine kE _ ?_ | refine kX _ _ rfl ?_ | refine kR _ ?_); try clear kN kE kX kR Qb)) | (refine ccA ([]) (c1) ?_) | (refine ccA ([]) (c2) ?_) | (refine ccA ([]) (c3) ?_) | (refine z1g hs ?_) | (refine ccA ([]) (c4) ?_) | (refine z0h fk ?_) | (refine i_at gk ?_) | (refine And.intro fk2 ?_) | (refine Exists.intro _ (And.intro gk ?_)) | (refine cb_f hq2 ?_) | (refine And.intro (by kernel_rfl) ?_) | (refine stpQ ?_))
   (refine z00 (by rfl) ?_ ?_ (by rfl)) <;> (repeat' (first | (exact eqA) | (refine And.intro ?_ ?_) | ((fail_if_success (with_reducible (show _ = _))); (show _ = _)))) <;> first | rfl | exact hap.symm | (simp; done)
 rw [hi] at c4
 have fk : ¬ (-1 : Int) ≥ 0 := by decide
 by_cases hw : (wtN s).length < 12
 rotate_left
 ·have hb : tkB a K s u = false := by rw [tkB, decide_eq_false hw, Bool.and_false, Bool.and_false]
  rw [hT _ hb, hS _ hb, if_neg (by decide), if_neg (by decide)]
  have fw : ((chE (wtN s)).length : Int) ≥ 12 := by omega
  clear hT hS hb c7
  have l3 := z0R s.al
  obtain ⟨ui, un, uv⟩ := u
  obtain ⟨ep, vs, tk, al, re, rt, rk⟩ := s
  (try unfold svR at *); (try unfold svRw at *); (try unfold svE at *); (try unfold svH at *); (try unfold svB at *); (try unfold chL at *)
  simp only at *
  generalize dkOf shardN ts = d0 at *
  refine z01 z0i 1 rfl Tryz.func99 rfl rfl rfl ?_
  conv => arg 6; whnf
  repeat ((try conv => whnf); first | (with_reducible first | refine z0f (fun Qs hN hE hR => ?_) | refine z0d ?_ | refine z04 (fun Qb kN kE kX kR => ?_) | refine z06 ?_ | refine z07 ?_ | refine z0e ?_ | refine z08 ?_ | refine z09 ?_ | (show W _ _ _ (.cond _ _ _) _ _; refine z05 rfl ?_) | (refine hN _ ?_; try clear hN hE hR Qs) | ((first | refine hE _ _ ?_ | refine hR _ ?_); try clear hN hE hR Qs) | ((first | refine kN _ ?_ | refine kE _ ?_ | refine kX _ _ rfl ?_ | refine kR _ ?_); try clear kN kE kX kR Qb)) | (refine ccA ([]) (c1) ?_) | (refine ccA ([]) (c2) ?_) | (refine ccA ([]) (c3) ?_) | (refine z1g hs ?_) | (refine ccA ([]) (c4) ?_) | (refine z0c fk ?_) | (refine ccA ([]) (c5) ?_) | (refine ccA ([]) (c6) ?_) | (refine z0h fw ?_) | (refine And.intro (by kernel_rfl) ?_) | (refine stpQ ?_))
  (refine z00 (by rfl) ?_ ?_ (by rfl)) <;> (repeat' (first | (exact eqA) | (refine And.intro ?_ ?_) | ((fail_if_success (with_reducible (show _ = _))); (show _ = _)))) <;> first | rfl | exact hap.symm | (simp; done)
 ·have hb : tkB a K s u = true := by rw [tkB, decide_eq_true hs, decide_eq_true hi, decide_eq_true hw]; rfl
  rw [hT _ hb, hS _ hb, if_pos rfl, if_pos rfl]
  have fw : ¬ ((chE (wtN s)).length : Int) ≥ 12 := by omega
  have hap : chE (s.al ++ [u]) = chE s.al ++ [chL u] := ze5 _ _
  clear hT hS hb
  have l3 := z0R s.al
  obtain ⟨ui, un, uv⟩ := u
  obtain ⟨ep, vs, tk, al, re, rt, rk⟩ := s
  (try unfold svR at *); (try unfold svRw at *); (try unfold svE at *); (try unfold svH at *); (try unfold svB at *); (try unfold chL at *)
  simp only at *
  generalize dkOf shardN ts = d0 at *
  refine z01 z0i 1 rfl Tryz.func99 rfl rfl rfl ?_
  conv => arg 6; whnf
  repeat ((try conv => whnf); first | (with_reducible first | refine z0f (fun Qs hN hE hR => ?_) | refine z0d ?_ | refine z04 (fun Qb kN kE kX kR => ?_) | refine z06 ?_ | refine z07 ?_ | refine z0e ?_ | refine z08 ?_ | refine z09 ?_ | (show W _ _ _ (.cond _ _ _) _ _; refine z05 rfl ?_) | (refine hN _ ?_; try clear hN hE hR Qs) | ((first | refine hE _ _ ?_ | refine hR _ ?_); try clear hN hE hR Qs) | ((first | refine kN _ ?_ | refine kE _ ?_ | refine kX _ _ rfl ?_ | refine kR _ ?_); try clear kN kE kX kR Qb)) | (refine ccA ([]) (c1) ?_) | (refine ccA ([]) (c2) ?_) | (refine ccA ([]) (c3) ?_) | (refine z1g hs ?_) | (refine ccA ([]) (c4) ?_) | (refine z0c fk ?_) | (refine ccA ([]) (c5) ?_) | (refine ccA ([]) (c6) ?_) | (refine z0c fw ?_) | (refine ccB ([_, _, _, _]) (c7) ?_) | (refine And.intro (by simp only [List.length_append, List.length_set, List.length_replicate, List.length_cons, List.length_nil, List.nil_append]; omega) ?_) | (refine And.intro (by kernel_rfl) ?_) | (refine stpQ ?_))
  (refine z00 (by rfl) ?_ ?_ (by rfl)) <;> (repeat' (first | (exact eqA) | (refine And.intro ?_ ?_) | ((fail_if_success (with_reducible (show _ = _))); (show _ = _)))) <;> first | rfl | exact hap.symm | (simp; done)
end
end Go.Proofs.YtfjbinbpgdiafaaGreatDoor
