/- Functions by content: complete proofs drawn and spoiled; the law FnWholesTold. -/
import Derived.Test.YtgmbkbggnlponaaGreatDoorVfg
import Derived.Test.YtgmbkbggnlponaaGreatDoorVfb
import Derived.Test.YtgmbkbggnlponaaGreatDoorRwn
import Derived.Test.YtgmbkbggnlponaaGreatDoorRwy
import Derived.Test.YtgmbkbggnlponaaGreatDoorSgs
namespace Go.Proofs.YtgmbkbggnlponaaGreatDoor
set_option maxRecDepth 100000
set_option maxHeartbeats 8000000
set_option linter.unusedVariables false
set_option linter.unusedSimpArgs false
set_option linter.unusedSectionVars false
open Go.RowKit Pl
structure WhN (x : Wh) : Prop where
 bs : Small9 x.B
 bl : x.B.length ≤ 20
 sl : x.S.length ≤ 8
 sw : ∀ y ∈ x.S, y.length = 16
 tl : x.T.length ≤ 2
 tw : ∀ y ∈ x.T, y.length ≤ 16
 hd : x.hd.good
 sg : x.sg.good
 sl2 : x.st.length ≤ 2
 sh : ∀ y ∈ x.st, y.1 ≤ 3 ∧ y.2.good
def waOf (x : Wh) : Wa := ⟨x.B, x.S, x.T, (x.hd.ho : Int), (x.hd.ep : Int), x.hd.ro, x.hd.pr, (x.sg.a : Int), x.sg.op, x.sg.sh, x.sg.si, x.st.map fun y => ((y.1 : Int), (y.2.a : Int), y.2.op, y.2.sh, y.2.si)⟩
theorem waOf_E (x : Wh) : waE (waOf x) = whE x := by
 have e : wsE (x.st.map fun y => ((y.1 : Int), (y.2.a : Int), y.2.op, y.2.sh, y.2.si)) = stE x.st := by
  simp only [wsE, stE, List.map_map]; rfl
 show ([.sl 2 (lvE x.B), .sl 1 (strE x.S), .sl 1 (strE x.T), .int .i64 (x.hd.ho : Int), .int .i64 (x.hd.ep : Int), .str x.hd.ro, .str x.hd.pr, .int .i64 (x.sg.a : Int), .sl 1 (strE x.sg.op), .sl 1 (strE x.sg.sh), .sl 1 (strE x.sg.si), .sl 5 (wsE (x.st.map fun y => ((y.1 : Int), (y.2.a : Int), y.2.op, y.2.sh, y.2.si)))] : List T) = _
 rw [e]; rfl
theorem zil {nm : Bs} {x : Wh} (hn : nm.length ≤ 9) (h : WhN x) : WaOk nm (waOf x) := by
 have g1 := h.sg
 obtain ⟨h1, ⟨h2, h3⟩, ⟨h4, h5⟩, h6, h7⟩ := g1
 refine ⟨⟨by omega, by have := h.bl; show x.B.length ≤ 30; omega, fun y hy => by have := h.bs y hy; omega, by have := h.sl; show x.S.length ≤ 30; omega, fun y hy => by have := h.sw y hy; omega⟩, by have := h.tl; show x.T.length ≤ 10; omega, by show x.sg.op.length ≤ 1000; omega, by show x.sg.sh.length ≤ 1000; omega, by show x.sg.si.length ≤ 1000; omega, ?_, ?_⟩
 ·show (x.st.map _).length ≤ 10
  rw [List.length_map]; have := h.sl2; omega
 ·intro k
  have hm : ∀ y ∈ x.st, y.2.op.length ≤ 1000 ∧ y.2.sh.length ≤ 1000 ∧ y.2.si.length ≤ 1000 := fun y hy => by
   obtain ⟨q1, ⟨q2, q3⟩, ⟨q4, q5⟩, q6, q7⟩ := (h.sh y hy).2
   omega
  rcases Nat.lt_or_ge k x.st.length with hk | hk
  ·have e : wsAt (waOf x).st k = ((x.st[k].1 : Int), (x.st[k].2.a : Int), x.st[k].2.op, x.st[k].2.sh, x.st[k].2.si) := by
    show (x.st.map _).getD k wsT0 = _
    rw [List.getD, List.getElem?_eq_getElem (by rw [List.length_map]; exact hk), List.getElem_map]
    rfl
   rw [e]
   exact hm _ (List.getElem_mem hk)
  ·have e : wsAt (waOf x).st k = wsT0 := by
    show (x.st.map _).getD k wsT0 = _
    rw [List.getD, List.getElem?_eq_none (by rw [List.length_map]; exact hk)]
    rfl
   rw [e]
   decide
theorem z9k (R : List Bs) (K need house : Int) (nm : Bs) (ep0 : Int) (x : Wh) (hRn : R.length = 3) (hK : -5 ≤ K ∧ K ≤ 5) (hn : nm.length ≤ 9) (h : WhN x) : ∃ (v : Bs) (has : Bool) (no : Int), (no = 0 ∨ (v = [] ∧ has = false)) ∧
 CT Tryz.prog 6 [] [.agg [.sl 1 (strE R), .int .i64 K, .int .i64 need], .int .i64 house, .str nm, .int .i64 ep0, .agg (whE x)] (.tup [.str v, .bool has, .int .i64 no]) [] ∧
 CT Tryz.prog 7 [] [.agg [.sl 1 (strE R), .int .i64 K, .int .i64 need], .int .i64 house, .str nm, .int .i64 ep0, .agg (whE x)] (.tup [.str v, .bool has, .int .i64 no]) [] := by
 have q := zaG R K need house nm ep0 (waOf x) hRn hK (zil hn h)
 rw [waOf_E] at q
 exact q
theorem z9l (x : Wh) (h : WhN x) : ∃ (t : Bs) (b : Bool), t.length ≤ 100000 ∧ CT Tryz.prog 34 [] [.agg (whE x)] (.tup [.str t, .bool b]) [] := by
 have hsml := zfB h.bs (by have := h.bl; omega)
 have hpl : z0J x.B x.S 16 = true → (z0l x.B x.S).length ≤ 20000 := fun e => z2x e
 by_cases g : WhGood x
 ·refine ⟨_, _, ?_, z3t x g hsml (by have := h.bl; omega) (hpl g.pf)⟩
  have a1 := z0D (l := z0l x.B x.S) (by have := hpl g.pf; omega)
  have a2 := z0O (n := x.T.length) (by have := g.tl; omega)
  have a3 := z1Q g.tw
  have a4 := z0N g.hd
  have a5 := z1Y g.sg
  have a6 := z0D (l := z0P x.hd) (by omega)
  have a7 : (z12 x.hd x.sg).length ≤ 400 := by rw [z12, List.length_append]; omega
  have a8 := z0D (l := z12 x.hd x.sg) (by omega)
  have a9 := z0O (n := x.st.length) (by have := g.sl; omega)
  have aA : (stL x.st).length ≤ 322 * x.st.length := by
   have : ∀ l : List (Nat × Sg), (∀ y ∈ l, y.2.good) → (stL l).length = 322 * l.length := fun l hl => by
    induction l with
    | nil => rfl
    | cons y l ih =>
      have b1 := ih fun z hz => hl z (List.mem_cons_of_mem _ hz)
      have b2 := z1Y (hl y (by simp))
      simp only [stL, List.length_append, List.length_cons, List.length_nil]
      omega
   rw [this x.st fun y hy => (g.sh y hy).2]; exact Nat.le_refl _
  have aB := g.sl
  have aC := g.tl
  have aD := hpl g.pf
  simp only [z1V, List.length_append]
  omega
 ·have q := z58 x.B x.S x.T (some (x.hd, x.sg)) (stO x.st) hsml (by have := h.bl; omega) (by have := h.sl; omega) (by have := h.tl; omega) (by rw [stO, List.length_map]; have := h.sl2; omega) (fun y e => by injection e with e; subst e; exact ⟨h.hd, h.sg⟩) (fun y hy s e => by
   simp only [stO, List.mem_map] at hy
   obtain ⟨z, hz, rfl⟩ := hy
   injection e with e; subst e
   exact (h.sh z hz).2) hpl (fun ⟨p1, _, p3, p4, p5, p6⟩ => g ⟨p1, p3, p4, h.hd, h.sg, by rw [stO, List.length_map] at p5; exact p5, fun y hy => ⟨(p6 (y.1, some y.2) (by simp only [stO, List.mem_map]; exact ⟨y, hy, rfl⟩)).1, (h.sh y hy).2⟩⟩)
  rw [z9g] at q
  exact ⟨_, _, by simp, q⟩
section
attribute [local irreducible] z0t z0u z0y AnsP LeP W CvE
theorem c_dvA (c : Bs) (j : Nat) (h h2 : Int) (R : List (List T)) (B S T0 OP SH SI ST DT : List (List T)) (ho ep a : Int) (ro pr : Bs) (K need house ep0 : Int) (nm : Bs) (k0 : CT Tryz.prog 16 [] [.sl 1 (z0f c)] (.ptr 1 0 0) [curE c 0 h])
 (k1 : CT Tryz.prog 15 [curE c 0 h] [.ptr 1 0 0] (.tup [.agg [.ref 2, .int .i64 K, .int .i64 need], .int .i64 house, .str nm, .int .i64 ep0, .agg [.sl 2 B, .sl 1 S, .sl 1 T0, .int .i64 ho, .int .i64 ep, .str ro, .str pr, .int .i64 a, .sl 1 OP, .sl 1 SH, .sl 1 SI, .sl 5 ST]]) [curE c j h2, .row 1 R]) : CT Tryz.prog 5 [] [.sl 1 (z0f c)] (.tup [.agg [.sl 1 R, .int .i64 K, .int .i64 need], .int .i64 house, .str nm, .int .i64 ep0, .agg [.sl 2 B, .sl 1 S, .sl 1 T0, .int .i64 ho, .int .i64 ep, .str ro, .str pr, .int .i64 a, .sl 1 OP, .sl 1 SH, .sl 1 SI, .sl 5 ST]]) [] := by
 refine z01 z0d 1 rfl Tryz.func5 rfl rfl rfl ?_
 conv => arg 6; whnf
 repeat ((try conv => whnf); first | (with_reducible first | refine z0b (fun Qs hN hE hR => ?_) | refine z09 ?_ | refine z03 (fun Qb kN kE kX kR => ?_) | refine z05 ?_ | refine z06 ?_ | refine z0a ?_ | refine z07 ?_ | refine z08 ?_ | (show W _ _ _ (.cond _ _ _) _ _; refine z04 rfl ?_) | (refine hN _ ?_; try clear hN hE hR Qs; (try (conv => arg 6; dsimp only [ovl, List.set, List.map, ren0]))) | ((first | refine hE _ _ ?_ | refine hR _ ?_); try clear hN hE hR Qs) | ((first | refine kN _ ?_ | refine kE _ ?_ | refine kX _ _ rfl ?_ | refine kR _ ?_); try clear kN kE kX kR Qb)) | (refine ccA ([]) (k0) ?_) | (refine ccB ([_]) (k1) ?_) | (refine And.intro (by kernel_rfl) ?_) | (refine stpQ ?_))
 (refine z00 (by rfl) ?_ ?_ (by rfl)) <;> (repeat' (first | (exact eqA) | (refine And.intro ?_ ?_) | ((fail_if_success (with_reducible (show _ = _))); (show _ = _)))) <;> first | rfl | (simp; done)
theorem c_dtA (c : Bs) (j i1 x : Nat) (h h1 h2 : Int) (R : List Bs) (hRn : R.length = 3) (B S T0 OP SH SI ST DT : List (List T)) (ho ep a : Int) (ro pr : Bs) (K need house ep0 : Int) (nm : Bs) (k0 : CT Tryz.prog 16 [] [.sl 1 (z0f c)] (.ptr 1 0 0) [curE c 0 h])
 (kx : CT Tryz.prog 33 [curE c 0 h] [.ptr 1 0 0, .int .i64 6] (.int .i64 (x : Int)) [curE c i1 h1])
 (k1 : CT Tryz.prog 15 [curE c i1 h1] [.ptr 1 0 0] (.tup [.agg [.ref 2, .int .i64 K, .int .i64 need], .int .i64 house, .str nm, .int .i64 ep0, .agg [.sl 2 B, .sl 1 S, .sl 1 T0, .int .i64 ho, .int .i64 ep, .str ro, .str pr, .int .i64 a, .sl 1 OP, .sl 1 SH, .sl 1 SI, .sl 5 ST]]) [curE c j h2, .row 1 (strE R)]) : ∃ R' : List Bs, R'.length ≤ 1000 ∧ CT Tryz.prog 11 [] [.sl 1 (z0f c)] (.agg [.sl 1 (strE R'), .int .i64 K, .int .i64 need]) [] := by
 have hRl := (z0c R).trans hRn
 by_cases x0 : x = 0
 ·have n0 : ((x : Nat) : Int) = 0 := by omega
  have n1 : ¬ ((x : Nat) : Int) = 1 := by omega
  refine ⟨[], by simp, ?_⟩
  show CT _ _ _ _ (.agg [.sl 1 [], _, _]) _
  generalize strE R = RR at *
  refine z01 z0d 1 rfl Tryz.func11 rfl rfl rfl ?_
  conv => arg 6; whnf
  repeat ((try conv => whnf); first | (with_reducible first | refine z0b (fun Qs hN hE hR => ?_) | refine z09 ?_ | refine z03 (fun Qb kN kE kX kR => ?_) | refine z05 ?_ | refine z06 ?_ | refine z0a ?_ | refine z07 ?_ | refine z08 ?_ | (show W _ _ _ (.cond _ _ _) _ _; refine z04 rfl ?_) | (refine hN _ ?_; try clear hN hE hR Qs; (try (conv => arg 6; dsimp only [ovl, List.set, List.map, ren0]))) | ((first | refine hE _ _ ?_ | refine hR _ ?_); try clear hN hE hR Qs) | ((first | refine kN _ ?_ | refine kE _ ?_ | refine kX _ _ rfl ?_ | refine kR _ ?_); try clear kN kE kX kR Qb)) | (refine ccA ([]) (k0) ?_) | (refine ccB ([_]) (kx) ?_) | (refine ccB ([_]) (k1) ?_) | (refine z0i n0 ?_) | (refine z0k n1 ?_) | (refine Exists.intro 0 (And.intro rfl (And.intro (Nat.zero_le _) ?_))) | (refine And.intro (by kernel_rfl) ?_) | (refine stpQ ?_))
  (refine z00 (by rfl) ?_ ?_ (by rfl)) <;> (repeat' (first | (exact eqA) | (refine And.intro ?_ ?_) | ((fail_if_success (with_reducible (show _ = _))); (show _ = _)))) <;> first | rfl | (simp; done)
 by_cases x1 : x = 1
 ·have n0 : ¬ ((x : Nat) : Int) = 0 := by omega
  have n1 : ((x : Nat) : Int) = 1 := by omega
  refine ⟨R ++ [[120]], by simp; omega, ?_⟩
  rw [z0R]
  generalize strE R = RR at *
  refine z01 z0d 1 rfl Tryz.func11 rfl rfl rfl ?_
  conv => arg 6; whnf
  repeat ((try conv => whnf); first | (with_reducible first | refine z0b (fun Qs hN hE hR => ?_) | refine z09 ?_ | refine z03 (fun Qb kN kE kX kR => ?_) | refine z05 ?_ | refine z06 ?_ | refine z0a ?_ | refine z07 ?_ | refine z08 ?_ | (show W _ _ _ (.cond _ _ _) _ _; refine z04 rfl ?_) | (refine hN _ ?_; try clear hN hE hR Qs; (try (conv => arg 6; dsimp only [ovl, List.set, List.map, ren0]))) | ((first | refine hE _ _ ?_ | refine hR _ ?_); try clear hN hE hR Qs) | ((first | refine kN _ ?_ | refine kE _ ?_ | refine kX _ _ rfl ?_ | refine kR _ ?_); try clear kN kE kX kR Qb)) | (refine ccA ([]) (k0) ?_) | (refine ccB ([_]) (kx) ?_) | (refine ccB ([_]) (k1) ?_) | (refine z0k n0 ?_) | (refine z0i n1 ?_) | (refine And.intro (by simp only [List.length_append, List.length_set, List.length_replicate, List.length_cons, List.length_nil, List.nil_append]; omega) ?_) | (refine And.intro (by kernel_rfl) ?_) | (refine stpQ ?_))
  (refine z00 (by rfl) ?_ ?_ (by rfl)) <;> (repeat' (first | (exact eqA) | (refine And.intro ?_ ?_) | ((fail_if_success (with_reducible (show _ = _))); (show _ = _)))) <;> first | rfl | (simp; done)
 ·have n0 : ¬ ((x : Nat) : Int) = 0 := by omega
  have n1 : ¬ ((x : Nat) : Int) = 1 := by omega
  refine ⟨R, by omega, ?_⟩
  generalize strE R = RR at *
  refine z01 z0d 1 rfl Tryz.func11 rfl rfl rfl ?_
  conv => arg 6; whnf
  repeat ((try conv => whnf); first | (with_reducible first | refine z0b (fun Qs hN hE hR => ?_) | refine z09 ?_ | refine z03 (fun Qb kN kE kX kR => ?_) | refine z05 ?_ | refine z06 ?_ | refine z0a ?_ | refine z07 ?_ | refine z08 ?_ | (show W _ _ _ (.cond _ _ _) _ _; refine z04 rfl ?_) | (refine hN _ ?_; try clear hN hE hR Qs; (try (conv => arg 6; dsimp only [ovl, List.set, List.map, ren0]))) | ((first | refine hE _ _ ?_ | refine hR _ ?_); try clear hN hE hR Qs) | ((first | refine kN _ ?_ | refine kE _ ?_ | refine kX _ _ rfl ?_ | refine kR _ ?_); try clear kN kE kX kR Qb)) | (refine ccA ([]) (k0) ?_) | (refine ccB ([_]) (kx) ?_) | (refine ccB ([_]) (k1) ?_) | (refine z0k n0 ?_) | (refine z0k n1 ?_) | (refine And.intro (by kernel_rfl) ?_) | (refine stpQ ?_))
  (refine z00 (by rfl) ?_ ?_ (by rfl)) <;> (repeat' (first | (exact eqA) | (refine And.intro ?_ ?_) | ((fail_if_success (with_reducible (show _ = _))); (show _ = _)))) <;> first | rfl | (simp; done)
theorem c_drA (c : Bs) (hc : (c.length : Int) ≤ 1048576) (j i1 x : Nat) (h h1 h2 : Int) (hj : j ≤ c.length) (R : List (List T)) (B S T0 OP SH SI ST DT : List (List T)) (ho ep a : Int) (ro pr : Bs) (K need house ep0 : Int) (nm : Bs) (k0 : CT Tryz.prog 16 [] [.sl 1 (z0f c)] (.ptr 1 0 0) [curE c 0 h])
 (kx : CT Tryz.prog 33 [curE c 0 h] [.ptr 1 0 0, .int .i64 4] (.int .i64 (x : Int)) [curE c i1 h1])
 (k1 : CT Tryz.prog 15 [curE c i1 h1] [.ptr 1 0 0] (.tup [.agg [.ref 2, .int .i64 K, .int .i64 need], .int .i64 house, .str nm, .int .i64 ep0, .agg [.sl 2 B, .sl 1 S, .sl 1 T0, .int .i64 ho, .int .i64 ep, .str ro, .str pr, .int .i64 a, .sl 1 OP, .sl 1 SH, .sl 1 SI, .sl 5 ST]]) [curE c j h2, .row 1 R]) (t : Bs) (b : Bool) (ht : t.length ≤ 100000)
 (kt : CT Tryz.prog 34 [] [.agg [.sl 2 B, .sl 1 S, .sl 1 T0, .int .i64 ho, .int .i64 ep, .str ro, .str pr, .int .i64 a, .sl 1 OP, .sl 1 SH, .sl 1 SI, .sl 5 ST]] (.tup [.str t, .bool b]) []) : ∃ s : Bs, s.length ≤ 100001 ∧ CT Tryz.prog 8 [] [.sl 1 (z0f c)] (.str s) [] := by
 by_cases x0 : x = 0
 ·have n0 : ((x : Nat) : Int) = 0 := by omega
  obtain ⟨r, i', h', hr, hi', ks⟩ := zcL c j h2 t hc hj (by omega)
  refine ⟨r, by omega, ?_⟩
  refine z01 z0d 1 rfl Tryz.func8 rfl rfl rfl ?_
  conv => arg 6; whnf
  repeat ((try conv => whnf); first | (with_reducible first | refine z0b (fun Qs hN hE hR => ?_) | refine z09 ?_ | refine z03 (fun Qb kN kE kX kR => ?_) | refine z05 ?_ | refine z06 ?_ | refine z0a ?_ | refine z07 ?_ | refine z08 ?_ | (show W _ _ _ (.cond _ _ _) _ _; refine z04 rfl ?_) | (refine hN _ ?_; try clear hN hE hR Qs; (try (conv => arg 6; dsimp only [ovl, List.set, List.map, ren0]))) | ((first | refine hE _ _ ?_ | refine hR _ ?_); try clear hN hE hR Qs) | ((first | refine kN _ ?_ | refine kE _ ?_ | refine kX _ _ rfl ?_ | refine kR _ ?_); try clear kN kE kX kR Qb)) | (refine ccA ([]) (k0) ?_) | (refine ccB ([_]) (kx) ?_) | (refine ccB ([_]) (k1) ?_) | (refine ccA ([]) (kt) ?_) | (refine z0i n0 ?_) | (refine ccB ([_]) (ks) ?_) | (refine And.intro (by kernel_rfl) ?_) | (refine stpQ ?_))
  (refine z00 (by rfl) ?_ ?_ (by rfl)) <;> (repeat' (first | (exact eqA) | (refine And.intro ?_ ?_) | ((fail_if_success (with_reducible (show _ = _))); (show _ = _)))) <;> first | rfl | (simp; done)
 ·have n0 : ¬ ((x : Nat) : Int) = 0 := by omega
  refine ⟨t, by omega, ?_⟩
  refine z01 z0d 1 rfl Tryz.func8 rfl rfl rfl ?_
  conv => arg 6; whnf
  repeat ((try conv => whnf); first | (with_reducible first | refine z0b (fun Qs hN hE hR => ?_) | refine z09 ?_ | refine z03 (fun Qb kN kE kX kR => ?_) | refine z05 ?_ | refine z06 ?_ | refine z0a ?_ | refine z07 ?_ | refine z08 ?_ | (show W _ _ _ (.cond _ _ _) _ _; refine z04 rfl ?_) | (refine hN _ ?_; try clear hN hE hR Qs; (try (conv => arg 6; dsimp only [ovl, List.set, List.map, ren0]))) | ((first | refine hE _ _ ?_ | refine hR _ ?_); try clear hN hE hR Qs) | ((first | refine kN _ ?_ | refine kE _ ?_ | refine kX _ _ rfl ?_ | refine kR _ ?_); try clear kN kE kX kR Qb)) | (refine ccA ([]) (k0) ?_) | (refine ccB ([_]) (kx) ?_) | (refine ccB ([_]) (k1) ?_) | (refine ccA ([]) (kt) ?_) | (refine z0k n0 ?_) | (refine And.intro (by kernel_rfl) ?_) | (refine stpQ ?_))
  (refine z00 (by rfl) ?_ ?_ (by rfl)) <;> (repeat' (first | (exact eqA) | (refine And.intro ?_ ?_) | ((fail_if_success (with_reducible (show _ = _))); (show _ = _)))) <;> first | rfl | (simp; done)
theorem zfC (c : Bs) (cb : CT Tryz.prog 4 [] [.sl 1 (z0f c)] (.bool false) []) (R : List (List T)) (B S T0 OP SH SI ST DT : List (List T)) (ho ep a : Int) (ro pr : Bs) (K need house ep0 : Int) (nm : Bs) (R2 : List (List T)) (K2 need2 : Int) (ok b0 : Bool) (s : Bs) (v : Bs) (has : Bool)
 (D1 D2 D3 D4 D5 D6 D7 E1 E2 E3 E4 E5 E6 E7 : List (List T)) (wo we wa : Int) (wr wp : Bs)
 (cD : CT Tryz.prog 5 [] [.sl 1 (z0f c)] (.tup [.agg [.sl 1 R, .int .i64 K, .int .i64 need], .int .i64 house, .str nm, .int .i64 ep0, .agg [.sl 2 B, .sl 1 S, .sl 1 T0, .int .i64 ho, .int .i64 ep, .str ro, .str pr, .int .i64 a, .sl 1 OP, .sl 1 SH, .sl 1 SI, .sl 5 ST]]) [])
 (c1 : CT Tryz.prog 6 [] [.agg [.sl 1 R, .int .i64 K, .int .i64 need], .int .i64 house, .str nm, .int .i64 ep0, .agg [.sl 2 B, .sl 1 S, .sl 1 T0, .int .i64 ho, .int .i64 ep, .str ro, .str pr, .int .i64 a, .sl 1 OP, .sl 1 SH, .sl 1 SI, .sl 5 ST]] (.tup [.str v, .bool has, .int .i64 0]) [])
 (c2 : CT Tryz.prog 7 [] [.agg [.sl 1 R, .int .i64 K, .int .i64 need], .int .i64 house, .str nm, .int .i64 ep0, .agg [.sl 2 B, .sl 1 S, .sl 1 T0, .int .i64 ho, .int .i64 ep, .str ro, .str pr, .int .i64 a, .sl 1 OP, .sl 1 SH, .sl 1 SI, .sl 5 ST]] (.tup [.str v, .bool has, .int .i64 0]) [])
 (c3 : CT Tryz.prog 8 [] [.sl 1 (z0f c)] (.str s) [])
 (c4 : CT Tryz.prog 9 [] [.str s] (.tup [.agg [.ref 1, .ref 2, .ref 3, .int .i64 wo, .int .i64 we, .str wr, .str wp, .int .i64 wa, .ref 4, .ref 5, .ref 6, .ref 7], .bool ok]) [.deep 2 D1 [], .deep 1 D2 [], .deep 1 D3 [], .deep 1 D4 [], .deep 1 D5 [], .deep 1 D6 [], .deep 5 D7 []])
 (c5 : CT Tryz.prog 10 [] [.str s] (.tup [.agg [.sl 2 E1, .sl 1 E2, .sl 1 E3, .int .i64 wo, .int .i64 we, .str wr, .str wp, .int .i64 wa, .sl 1 E4, .sl 1 E5, .sl 1 E6, .sl 5 E7], .bool ok]) [])
 (c6 : CT Tryz.prog 12 [] [.agg [.sl 2 (ucE D1), .sl 1 (ucE D2), .sl 1 (ucE D3), .int .i64 wo, .int .i64 we, .str wr, .str wp, .int .i64 wa, .sl 1 (ucE D4), .sl 1 (ucE D5), .sl 1 (ucE D6), .sl 5 (ucE D7)], .agg [.sl 2 E1, .sl 1 E2, .sl 1 E3, .int .i64 wo, .int .i64 we, .str wr, .str wp, .int .i64 wa, .sl 1 E4, .sl 1 E5, .sl 1 E6, .sl 5 E7]] (.bool true) [])
 (c7 : CT Tryz.prog 11 [] [.sl 1 (z0f c)] (.agg [.sl 1 R2, .int .i64 K2, .int .i64 need2]) [])
 (c8 : CT Tryz.prog 13 [] [.agg [.sl 1 R2, .int .i64 K2, .int .i64 need2]] (.bool b0) [])
 (c9 : CT Tryz.prog 14 [] [.agg [.sl 1 R2, .int .i64 K2, .int .i64 need2]] (.bool b0) []) : CT Tryz.prog 3 [] [.sl 1 (z0f c)] (.bool true) [] := by
 have y1 : v = v := rfl
 have y2 : has = has := rfl
 have y5 : (0 : Int) = 0 := rfl
 have y3 : ok = ok := rfl
 have y4 : b0 = b0 := rfl
 refine z01 z0d 1 rfl Tryz.func3 rfl rfl rfl ?_
 conv => arg 6; whnf
 repeat ((try conv => whnf); first | (with_reducible first | refine z0b (fun Qs hN hE hR => ?_) | refine z09 ?_ | refine z03 (fun Qb kN kE kX kR => ?_) | refine z05 ?_ | refine z06 ?_ | refine z0a ?_ | refine z07 ?_ | refine z08 ?_ | (show W _ _ _ (.cond _ _ _) _ _; refine z04 rfl ?_) | (refine hN _ ?_; try clear hN hE hR Qs; (try (conv => arg 6; dsimp only [ovl, List.set, List.map, ren0]))) | ((first | refine hE _ _ ?_ | refine hR _ ?_); try clear hN hE hR Qs) | ((first | refine kN _ ?_ | refine kE _ ?_ | refine kX _ _ rfl ?_ | refine kR _ ?_); try clear kN kE kX kR Qb)) | (refine ccA ([]) (cb) ?_) | (refine ccA ([]) (cD) ?_) | (refine ccA ([]) (c1) ?_) | (refine ccA ([]) (c2) ?_) | (refine ccA ([]) (c3) ?_) | (refine ccA ([]) (c4) ?_) | (refine ccA ([]) (c5) ?_) | (refine ccA ([]) (c7) ?_) | (refine z0i y1 ?_) | (refine z0i y2 ?_) | (refine z0i y5 ?_) | (refine z0i y3 ?_) | (refine ccA ([]) (c6) ?_) | (refine ccA ([]) (c8) ?_) | (refine ccA ([]) (c9) ?_) | (refine z0i y4 ?_) | (refine And.intro (by kernel_rfl) ?_) | (refine stpQ ?_))
 (refine z00 (by rfl) ?_ ?_ (by rfl)) <;> (repeat' (first | (exact eqA) | (refine And.intro ?_ ?_) | ((fail_if_success (with_reducible (show _ = _))); (show _ = _)))) <;> first | rfl | (simp; done)
theorem zfD (c : Bs) (cb : CT Tryz.prog 4 [] [.sl 1 (z0f c)] (.bool false) []) (R : List (List T)) (B S T0 OP SH SI ST DT : List (List T)) (ho ep a : Int) (ro pr : Bs) (K need house ep0 : Int) (nm : Bs) (R2 : List (List T)) (K2 need2 : Int) (ok b0 : Bool) (s : Bs) (no : Int) (hno : ¬ no = 0)
 (D1 D2 D3 D4 D5 D6 D7 E1 E2 E3 E4 E5 E6 E7 : List (List T)) (wo we wa : Int) (wr wp : Bs)
 (cD : CT Tryz.prog 5 [] [.sl 1 (z0f c)] (.tup [.agg [.sl 1 R, .int .i64 K, .int .i64 need], .int .i64 house, .str nm, .int .i64 ep0, .agg [.sl 2 B, .sl 1 S, .sl 1 T0, .int .i64 ho, .int .i64 ep, .str ro, .str pr, .int .i64 a, .sl 1 OP, .sl 1 SH, .sl 1 SI, .sl 5 ST]]) [])
 (c1 : CT Tryz.prog 6 [] [.agg [.sl 1 R, .int .i64 K, .int .i64 need], .int .i64 house, .str nm, .int .i64 ep0, .agg [.sl 2 B, .sl 1 S, .sl 1 T0, .int .i64 ho, .int .i64 ep, .str ro, .str pr, .int .i64 a, .sl 1 OP, .sl 1 SH, .sl 1 SI, .sl 5 ST]] (.tup [.str [], .bool false, .int .i64 no]) [])
 (c2 : CT Tryz.prog 7 [] [.agg [.sl 1 R, .int .i64 K, .int .i64 need], .int .i64 house, .str nm, .int .i64 ep0, .agg [.sl 2 B, .sl 1 S, .sl 1 T0, .int .i64 ho, .int .i64 ep, .str ro, .str pr, .int .i64 a, .sl 1 OP, .sl 1 SH, .sl 1 SI, .sl 5 ST]] (.tup [.str [], .bool false, .int .i64 no]) [])
 (c3 : CT Tryz.prog 8 [] [.sl 1 (z0f c)] (.str s) [])
 (c4 : CT Tryz.prog 9 [] [.str s] (.tup [.agg [.ref 1, .ref 2, .ref 3, .int .i64 wo, .int .i64 we, .str wr, .str wp, .int .i64 wa, .ref 4, .ref 5, .ref 6, .ref 7], .bool ok]) [.deep 2 D1 [], .deep 1 D2 [], .deep 1 D3 [], .deep 1 D4 [], .deep 1 D5 [], .deep 1 D6 [], .deep 5 D7 []])
 (c5 : CT Tryz.prog 10 [] [.str s] (.tup [.agg [.sl 2 E1, .sl 1 E2, .sl 1 E3, .int .i64 wo, .int .i64 we, .str wr, .str wp, .int .i64 wa, .sl 1 E4, .sl 1 E5, .sl 1 E6, .sl 5 E7], .bool ok]) [])
 (c6 : CT Tryz.prog 12 [] [.agg [.sl 2 (ucE D1), .sl 1 (ucE D2), .sl 1 (ucE D3), .int .i64 wo, .int .i64 we, .str wr, .str wp, .int .i64 wa, .sl 1 (ucE D4), .sl 1 (ucE D5), .sl 1 (ucE D6), .sl 5 (ucE D7)], .agg [.sl 2 E1, .sl 1 E2, .sl 1 E3, .int .i64 wo, .int .i64 we, .str wr, .str wp, .int .i64 wa, .sl 1 E4, .sl 1 E5, .sl 1 E6, .sl 5 E7]] (.bool true) [])
 (c7 : CT Tryz.prog 11 [] [.sl 1 (z0f c)] (.agg [.sl 1 R2, .int .i64 K2, .int .i64 need2]) [])
 (c8 : CT Tryz.prog 13 [] [.agg [.sl 1 R2, .int .i64 K2, .int .i64 need2]] (.bool b0) [])
 (c9 : CT Tryz.prog 14 [] [.agg [.sl 1 R2, .int .i64 K2, .int .i64 need2]] (.bool b0) []) : CT Tryz.prog 3 [] [.sl 1 (z0f c)] (.bool true) [] := by
 have y1 : ([] : Bs) = [] := rfl
 have y2 : false = false := rfl
 have y5 : no = no := rfl
 have y3 : ok = ok := rfl
 have y4 : b0 = b0 := rfl
 refine z01 z0d 1 rfl Tryz.func3 rfl rfl rfl ?_
 conv => arg 6; whnf
 repeat ((try conv => whnf); first | (with_reducible first | refine z0b (fun Qs hN hE hR => ?_) | refine z09 ?_ | refine z03 (fun Qb kN kE kX kR => ?_) | refine z05 ?_ | refine z06 ?_ | refine z0a ?_ | refine z07 ?_ | refine z08 ?_ | (show W _ _ _ (.cond _ _ _) _ _; refine z04 rfl ?_) | (refine hN _ ?_; try clear hN hE hR Qs; (try (conv => arg 6; dsimp only [ovl, List.set, List.map, ren0]))) | ((first | refine hE _ _ ?_ | refine hR _ ?_); try clear hN hE hR Qs) | ((first | refine kN _ ?_ | refine kE _ ?_ | refine kX _ _ rfl ?_ | refine kR _ ?_); try clear kN kE kX kR Qb)) | (refine ccA ([]) (cb) ?_) | (refine ccA ([]) (cD) ?_) | (refine ccA ([]) (c1) ?_) | (refine ccA ([]) (c2) ?_) | (refine ccA ([]) (c3) ?_) | (refine ccA ([]) (c4) ?_) | (refine ccA ([]) (c5) ?_) | (refine ccA ([]) (c7) ?_) | (refine z0i y1 ?_) | (refine z0i y2 ?_) | (refine z0i y5 ?_) | (refine z0k hno ?_) | (refine z0i y3 ?_) | (refine ccA ([]) (c6) ?_) | (refine ccA ([]) (c8) ?_) | (refine ccA ([]) (c9) ?_) | (refine z0i y4 ?_) | (refine And.intro (by kernel_rfl) ?_) | (refine stpQ ?_))
 (refine z00 (by rfl) ?_ ?_ (by rfl)) <;> (repeat' (first | (exact eqA) | (refine And.intro ?_ ?_) | ((fail_if_success (with_reducible (show _ = _))); (show _ = _)))) <;> first | rfl | (simp; done)
theorem c_dvB (c : Bs) (j : Nat) (h h2 : Int) (R : List (List T)) (B S T0 OP SH SI ST DT : List (List T)) (ho ep a : Int) (ro pr : Bs) (K need house ep0 : Int) (nm : Bs) (k0 : CT Tryz.prog 16 [] [.sl 1 (z0f c)] (.ptr 1 0 0) [curE c 0 h])
 (k1 : CT Tryz.prog 15 [curE c 0 h] [.ptr 1 0 0] (.tup [.agg [.ref 2, .int .i64 K, .int .i64 need], .int .i64 house, .str nm, .int .i64 ep0, .agg [.sl 2 B, .sl 1 S, .sl 1 T0, .int .i64 ho, .int .i64 ep, .str ro, .str pr, .int .i64 a, .sl 1 OP, .sl 1 SH, .sl 1 SI, .ref 3]]) [curE c j h2, .row 1 R, .deep 5 DT []]) : CT Tryz.prog 5 [] [.sl 1 (z0f c)] (.tup [.agg [.sl 1 R, .int .i64 K, .int .i64 need], .int .i64 house, .str nm, .int .i64 ep0, .agg [.sl 2 B, .sl 1 S, .sl 1 T0, .int .i64 ho, .int .i64 ep, .str ro, .str pr, .int .i64 a, .sl 1 OP, .sl 1 SH, .sl 1 SI, .ref 1]]) [.deep 5 DT []] := by
 refine z01 z0d 1 rfl Tryz.func5 rfl rfl rfl ?_
 conv => arg 6; whnf
 repeat ((try conv => whnf); first | (with_reducible first | refine z0b (fun Qs hN hE hR => ?_) | refine z09 ?_ | refine z03 (fun Qb kN kE kX kR => ?_) | refine z05 ?_ | refine z06 ?_ | refine z0a ?_ | refine z07 ?_ | refine z08 ?_ | (show W _ _ _ (.cond _ _ _) _ _; refine z04 rfl ?_) | (refine hN _ ?_; try clear hN hE hR Qs; (try (conv => arg 6; dsimp only [ovl, List.set, List.map, ren0]))) | ((first | refine hE _ _ ?_ | refine hR _ ?_); try clear hN hE hR Qs) | ((first | refine kN _ ?_ | refine kE _ ?_ | refine kX _ _ rfl ?_ | refine kR _ ?_); try clear kN kE kX kR Qb)) | (refine ccA ([]) (k0) ?_) | (refine ccB ([_]) (k1) ?_) | (refine And.intro (by kernel_rfl) ?_) | (refine stpQ ?_))
 (refine z00 (by rfl) ?_ ?_ (by rfl)) <;> (repeat' (first | (exact eqA) | (refine And.intro ?_ ?_) | ((fail_if_success (with_reducible (show _ = _))); (show _ = _)))) <;> first | rfl | (simp; done)
theorem c_dtB (c : Bs) (j i1 x : Nat) (h h1 h2 : Int) (R : List Bs) (hRn : R.length = 3) (B S T0 OP SH SI ST DT : List (List T)) (ho ep a : Int) (ro pr : Bs) (K need house ep0 : Int) (nm : Bs) (k0 : CT Tryz.prog 16 [] [.sl 1 (z0f c)] (.ptr 1 0 0) [curE c 0 h])
 (kx : CT Tryz.prog 33 [curE c 0 h] [.ptr 1 0 0, .int .i64 6] (.int .i64 (x : Int)) [curE c i1 h1])
 (k1 : CT Tryz.prog 15 [curE c i1 h1] [.ptr 1 0 0] (.tup [.agg [.ref 2, .int .i64 K, .int .i64 need], .int .i64 house, .str nm, .int .i64 ep0, .agg [.sl 2 B, .sl 1 S, .sl 1 T0, .int .i64 ho, .int .i64 ep, .str ro, .str pr, .int .i64 a, .sl 1 OP, .sl 1 SH, .sl 1 SI, .ref 3]]) [curE c j h2, .row 1 (strE R), .deep 5 DT []]) : ∃ R' : List Bs, R'.length ≤ 1000 ∧ CT Tryz.prog 11 [] [.sl 1 (z0f c)] (.agg [.sl 1 (strE R'), .int .i64 K, .int .i64 need]) [] := by
 have hRl := (z0c R).trans hRn
 by_cases x0 : x = 0
 ·have n0 : ((x : Nat) : Int) = 0 := by omega
  have n1 : ¬ ((x : Nat) : Int) = 1 := by omega
  refine ⟨[], by simp, ?_⟩
  show CT _ _ _ _ (.agg [.sl 1 [], _, _]) _
  generalize strE R = RR at *
  refine z01 z0d 1 rfl Tryz.func11 rfl rfl rfl ?_
  conv => arg 6; whnf
  repeat ((try conv => whnf); first | (with_reducible first | refine z0b (fun Qs hN hE hR => ?_) | refine z09 ?_ | refine z03 (fun Qb kN kE kX kR => ?_) | refine z05 ?_ | refine z06 ?_ | refine z0a ?_ | refine z07 ?_ | refine z08 ?_ | (show W _ _ _ (.cond _ _ _) _ _; refine z04 rfl ?_) | (refine hN _ ?_; try clear hN hE hR Qs; (try (conv => arg 6; dsimp only [ovl, List.set, List.map, ren0]))) | ((first | refine hE _ _ ?_ | refine hR _ ?_); try clear hN hE hR Qs) | ((first | refine kN _ ?_ | refine kE _ ?_ | refine kX _ _ rfl ?_ | refine kR _ ?_); try clear kN kE kX kR Qb)) | (refine ccA ([]) (k0) ?_) | (refine ccB ([_]) (kx) ?_) | (refine ccB ([_]) (k1) ?_) | (refine z0i n0 ?_) | (refine z0k n1 ?_) | (refine Exists.intro 0 (And.intro rfl (And.intro (Nat.zero_le _) ?_))) | (refine And.intro (by kernel_rfl) ?_) | (refine stpQ ?_))
  (refine z00 (by rfl) ?_ ?_ (by rfl)) <;> (repeat' (first | (exact eqA) | (refine And.intro ?_ ?_) | ((fail_if_success (with_reducible (show _ = _))); (show _ = _)))) <;> first | rfl | (simp; done)
 by_cases x1 : x = 1
 ·have n0 : ¬ ((x : Nat) : Int) = 0 := by omega
  have n1 : ((x : Nat) : Int) = 1 := by omega
  refine ⟨R ++ [[120]], by simp; omega, ?_⟩
  rw [z0R]
  generalize strE R = RR at *
  refine z01 z0d 1 rfl Tryz.func11 rfl rfl rfl ?_
  conv => arg 6; whnf
  repeat ((try conv => whnf); first | (with_reducible first | refine z0b (fun Qs hN hE hR => ?_) | refine z09 ?_ | refine z03 (fun Qb kN kE kX kR => ?_) | refine z05 ?_ | refine z06 ?_ | refine z0a ?_ | refine z07 ?_ | refine z08 ?_ | (show W _ _ _ (.cond _ _ _) _ _; refine z04 rfl ?_) | (refine hN _ ?_; try clear hN hE hR Qs; (try (conv => arg 6; dsimp only [ovl, List.set, List.map, ren0]))) | ((first | refine hE _ _ ?_ | refine hR _ ?_); try clear hN hE hR Qs) | ((first | refine kN _ ?_ | refine kE _ ?_ | refine kX _ _ rfl ?_ | refine kR _ ?_); try clear kN kE kX kR Qb)) | (refine ccA ([]) (k0) ?_) | (refine ccB ([_]) (kx) ?_) | (refine ccB ([_]) (k1) ?_) | (refine z0k n0 ?_) | (refine z0i n1 ?_) | (refine And.intro (by simp only [List.length_append, List.length_set, List.length_replicate, List.length_cons, List.length_nil, List.nil_append]; omega) ?_) | (refine And.intro (by kernel_rfl) ?_) | (refine stpQ ?_))
  (refine z00 (by rfl) ?_ ?_ (by rfl)) <;> (repeat' (first | (exact eqA) | (refine And.intro ?_ ?_) | ((fail_if_success (with_reducible (show _ = _))); (show _ = _)))) <;> first | rfl | (simp; done)
 ·have n0 : ¬ ((x : Nat) : Int) = 0 := by omega
  have n1 : ¬ ((x : Nat) : Int) = 1 := by omega
  refine ⟨R, by omega, ?_⟩
  generalize strE R = RR at *
  refine z01 z0d 1 rfl Tryz.func11 rfl rfl rfl ?_
  conv => arg 6; whnf
  repeat ((try conv => whnf); first | (with_reducible first | refine z0b (fun Qs hN hE hR => ?_) | refine z09 ?_ | refine z03 (fun Qb kN kE kX kR => ?_) | refine z05 ?_ | refine z06 ?_ | refine z0a ?_ | refine z07 ?_ | refine z08 ?_ | (show W _ _ _ (.cond _ _ _) _ _; refine z04 rfl ?_) | (refine hN _ ?_; try clear hN hE hR Qs; (try (conv => arg 6; dsimp only [ovl, List.set, List.map, ren0]))) | ((first | refine hE _ _ ?_ | refine hR _ ?_); try clear hN hE hR Qs) | ((first | refine kN _ ?_ | refine kE _ ?_ | refine kX _ _ rfl ?_ | refine kR _ ?_); try clear kN kE kX kR Qb)) | (refine ccA ([]) (k0) ?_) | (refine ccB ([_]) (kx) ?_) | (refine ccB ([_]) (k1) ?_) | (refine z0k n0 ?_) | (refine z0k n1 ?_) | (refine And.intro (by kernel_rfl) ?_) | (refine stpQ ?_))
  (refine z00 (by rfl) ?_ ?_ (by rfl)) <;> (repeat' (first | (exact eqA) | (refine And.intro ?_ ?_) | ((fail_if_success (with_reducible (show _ = _))); (show _ = _)))) <;> first | rfl | (simp; done)
theorem c_drB (c : Bs) (hc : (c.length : Int) ≤ 1048576) (j i1 x : Nat) (h h1 h2 : Int) (hj : j ≤ c.length) (R : List (List T)) (B S T0 OP SH SI ST DT : List (List T)) (ho ep a : Int) (ro pr : Bs) (K need house ep0 : Int) (nm : Bs) (k0 : CT Tryz.prog 16 [] [.sl 1 (z0f c)] (.ptr 1 0 0) [curE c 0 h])
 (kx : CT Tryz.prog 33 [curE c 0 h] [.ptr 1 0 0, .int .i64 4] (.int .i64 (x : Int)) [curE c i1 h1])
 (k1 : CT Tryz.prog 15 [curE c i1 h1] [.ptr 1 0 0] (.tup [.agg [.ref 2, .int .i64 K, .int .i64 need], .int .i64 house, .str nm, .int .i64 ep0, .agg [.sl 2 B, .sl 1 S, .sl 1 T0, .int .i64 ho, .int .i64 ep, .str ro, .str pr, .int .i64 a, .sl 1 OP, .sl 1 SH, .sl 1 SI, .ref 3]]) [curE c j h2, .row 1 R, .deep 5 DT []]) (t : Bs) (b : Bool) (ht : t.length ≤ 100000)
 (kt : CT Tryz.prog 34 [] [.agg [.sl 2 B, .sl 1 S, .sl 1 T0, .int .i64 ho, .int .i64 ep, .str ro, .str pr, .int .i64 a, .sl 1 OP, .sl 1 SH, .sl 1 SI, .sl 5 (ucE DT)]] (.tup [.str t, .bool b]) []) : ∃ s : Bs, s.length ≤ 100001 ∧ CT Tryz.prog 8 [] [.sl 1 (z0f c)] (.str s) [] := by
 by_cases x0 : x = 0
 ·have n0 : ((x : Nat) : Int) = 0 := by omega
  obtain ⟨r, i', h', hr, hi', ks⟩ := zcL c j h2 t hc hj (by omega)
  refine ⟨r, by omega, ?_⟩
  refine z01 z0d 1 rfl Tryz.func8 rfl rfl rfl ?_
  conv => arg 6; whnf
  repeat ((try conv => whnf); first | (with_reducible first | refine z0b (fun Qs hN hE hR => ?_) | refine z09 ?_ | refine z03 (fun Qb kN kE kX kR => ?_) | refine z05 ?_ | refine z06 ?_ | refine z0a ?_ | refine z07 ?_ | refine z08 ?_ | (show W _ _ _ (.cond _ _ _) _ _; refine z04 rfl ?_) | (refine hN _ ?_; try clear hN hE hR Qs; (try (conv => arg 6; dsimp only [ovl, List.set, List.map, ren0]))) | ((first | refine hE _ _ ?_ | refine hR _ ?_); try clear hN hE hR Qs) | ((first | refine kN _ ?_ | refine kE _ ?_ | refine kX _ _ rfl ?_ | refine kR _ ?_); try clear kN kE kX kR Qb)) | (refine ccA ([]) (k0) ?_) | (refine ccB ([_]) (kx) ?_) | (refine ccB ([_]) (k1) ?_) | (refine ccA ([]) (kt) ?_) | (refine z0i n0 ?_) | (refine ccB ([_]) (ks) ?_) | (refine And.intro (by kernel_rfl) ?_) | (refine stpQ ?_))
  (refine z00 (by rfl) ?_ ?_ (by rfl)) <;> (repeat' (first | (exact eqA) | (refine And.intro ?_ ?_) | ((fail_if_success (with_reducible (show _ = _))); (show _ = _)))) <;> first | rfl | (simp; done)
 ·have n0 : ¬ ((x : Nat) : Int) = 0 := by omega
  refine ⟨t, by omega, ?_⟩
  refine z01 z0d 1 rfl Tryz.func8 rfl rfl rfl ?_
  conv => arg 6; whnf
  repeat ((try conv => whnf); first | (with_reducible first | refine z0b (fun Qs hN hE hR => ?_) | refine z09 ?_ | refine z03 (fun Qb kN kE kX kR => ?_) | refine z05 ?_ | refine z06 ?_ | refine z0a ?_ | refine z07 ?_ | refine z08 ?_ | (show W _ _ _ (.cond _ _ _) _ _; refine z04 rfl ?_) | (refine hN _ ?_; try clear hN hE hR Qs; (try (conv => arg 6; dsimp only [ovl, List.set, List.map, ren0]))) | ((first | refine hE _ _ ?_ | refine hR _ ?_); try clear hN hE hR Qs) | ((first | refine kN _ ?_ | refine kE _ ?_ | refine kX _ _ rfl ?_ | refine kR _ ?_); try clear kN kE kX kR Qb)) | (refine ccA ([]) (k0) ?_) | (refine ccB ([_]) (kx) ?_) | (refine ccB ([_]) (k1) ?_) | (refine ccA ([]) (kt) ?_) | (refine z0k n0 ?_) | (refine And.intro (by kernel_rfl) ?_) | (refine stpQ ?_))
  (refine z00 (by rfl) ?_ ?_ (by rfl)) <;> (repeat' (first | (exact eqA) | (refine And.intro ?_ ?_) | ((fail_if_success (with_reducible (show _ = _))); (show _ = _)))) <;> first | rfl | (simp; done)
theorem zfE (c : Bs) (cb : CT Tryz.prog 4 [] [.sl 1 (z0f c)] (.bool false) []) (R : List (List T)) (B S T0 OP SH SI ST DT : List (List T)) (ho ep a : Int) (ro pr : Bs) (K need house ep0 : Int) (nm : Bs) (R2 : List (List T)) (K2 need2 : Int) (ok b0 : Bool) (s : Bs) (v : Bs) (has : Bool)
 (D1 D2 D3 D4 D5 D6 D7 E1 E2 E3 E4 E5 E6 E7 : List (List T)) (wo we wa : Int) (wr wp : Bs)
 (cD : CT Tryz.prog 5 [] [.sl 1 (z0f c)] (.tup [.agg [.sl 1 R, .int .i64 K, .int .i64 need], .int .i64 house, .str nm, .int .i64 ep0, .agg [.sl 2 B, .sl 1 S, .sl 1 T0, .int .i64 ho, .int .i64 ep, .str ro, .str pr, .int .i64 a, .sl 1 OP, .sl 1 SH, .sl 1 SI, .ref 1]]) [.deep 5 DT []])
 (c1 : CT Tryz.prog 6 [] [.agg [.sl 1 R, .int .i64 K, .int .i64 need], .int .i64 house, .str nm, .int .i64 ep0, .agg [.sl 2 B, .sl 1 S, .sl 1 T0, .int .i64 ho, .int .i64 ep, .str ro, .str pr, .int .i64 a, .sl 1 OP, .sl 1 SH, .sl 1 SI, .sl 5 (ucE DT)]] (.tup [.str v, .bool has, .int .i64 0]) [])
 (c2 : CT Tryz.prog 7 [] [.agg [.sl 1 R, .int .i64 K, .int .i64 need], .int .i64 house, .str nm, .int .i64 ep0, .agg [.sl 2 B, .sl 1 S, .sl 1 T0, .int .i64 ho, .int .i64 ep, .str ro, .str pr, .int .i64 a, .sl 1 OP, .sl 1 SH, .sl 1 SI, .sl 5 (ucE DT)]] (.tup [.str v, .bool has, .int .i64 0]) [])
 (c3 : CT Tryz.prog 8 [] [.sl 1 (z0f c)] (.str s) [])
 (c4 : CT Tryz.prog 9 [] [.str s] (.tup [.agg [.ref 1, .ref 2, .ref 3, .int .i64 wo, .int .i64 we, .str wr, .str wp, .int .i64 wa, .ref 4, .ref 5, .ref 6, .ref 7], .bool ok]) [.deep 2 D1 [], .deep 1 D2 [], .deep 1 D3 [], .deep 1 D4 [], .deep 1 D5 [], .deep 1 D6 [], .deep 5 D7 []])
 (c5 : CT Tryz.prog 10 [] [.str s] (.tup [.agg [.sl 2 E1, .sl 1 E2, .sl 1 E3, .int .i64 wo, .int .i64 we, .str wr, .str wp, .int .i64 wa, .sl 1 E4, .sl 1 E5, .sl 1 E6, .sl 5 E7], .bool ok]) [])
 (c6 : CT Tryz.prog 12 [] [.agg [.sl 2 (ucE D1), .sl 1 (ucE D2), .sl 1 (ucE D3), .int .i64 wo, .int .i64 we, .str wr, .str wp, .int .i64 wa, .sl 1 (ucE D4), .sl 1 (ucE D5), .sl 1 (ucE D6), .sl 5 (ucE D7)], .agg [.sl 2 E1, .sl 1 E2, .sl 1 E3, .int .i64 wo, .int .i64 we, .str wr, .str wp, .int .i64 wa, .sl 1 E4, .sl 1 E5, .sl 1 E6, .sl 5 E7]] (.bool true) [])
 (c7 : CT Tryz.prog 11 [] [.sl 1 (z0f c)] (.agg [.sl 1 R2, .int .i64 K2, .int .i64 need2]) [])
 (c8 : CT Tryz.prog 13 [] [.agg [.sl 1 R2, .int .i64 K2, .int .i64 need2]] (.bool b0) [])
 (c9 : CT Tryz.prog 14 [] [.agg [.sl 1 R2, .int .i64 K2, .int .i64 need2]] (.bool b0) []) : CT Tryz.prog 3 [] [.sl 1 (z0f c)] (.bool true) [] := by
 have y1 : v = v := rfl
 have y2 : has = has := rfl
 have y5 : (0 : Int) = 0 := rfl
 have y3 : ok = ok := rfl
 have y4 : b0 = b0 := rfl
 refine z01 z0d 1 rfl Tryz.func3 rfl rfl rfl ?_
 conv => arg 6; whnf
 repeat ((try conv => whnf); first | (with_reducible first | refine z0b (fun Qs hN hE hR => ?_) | refine z09 ?_ | refine z03 (fun Qb kN kE kX kR => ?_) | refine z05 ?_ | refine z06 ?_ | refine z0a ?_ | refine z07 ?_ | refine z08 ?_ | (show W _ _ _ (.cond _ _ _) _ _; refine z04 rfl ?_) | (refine hN _ ?_; try clear hN hE hR Qs; (try (conv => arg 6; dsimp only [ovl, List.set, List.map, ren0]))) | ((first | refine hE _ _ ?_ | refine hR _ ?_); try clear hN hE hR Qs) | ((first | refine kN _ ?_ | refine kE _ ?_ | refine kX _ _ rfl ?_ | refine kR _ ?_); try clear kN kE kX kR Qb)) | (refine ccA ([]) (cb) ?_) | (refine ccA ([]) (cD) ?_) | (refine ccA ([]) (c1) ?_) | (refine ccA ([]) (c2) ?_) | (refine ccA ([]) (c3) ?_) | (refine ccA ([]) (c4) ?_) | (refine ccA ([]) (c5) ?_) | (refine ccA ([]) (c7) ?_) | (refine z0i y1 ?_) | (refine z0i y2 ?_) | (refine z0i y5 ?_) | (refine z0i y3 ?_) | (refine ccA ([]) (c6) ?_) | (refine ccA ([]) (c8) ?_) | (refine ccA ([]) (c9) ?_) | (refine z0i y4 ?_) | (refine And.intro (by kernel_rfl) ?_) | (refine stpQ ?_))
 (refine z00 (by rfl) ?_ ?_ (by rfl)) <;> (repeat' (first | (exact eqA) | (refine And.intro ?_ ?_) | ((fail_if_success (with_reducible (show _ = _))); (show _ = _)))) <;> first | rfl | (simp; done)
theorem zfF (c : Bs) (cb : CT Tryz.prog 4 [] [.sl 1 (z0f c)] (.bool false) []) (R : List (List T)) (B S T0 OP SH SI ST DT : List (List T)) (ho ep a : Int) (ro pr : Bs) (K need house ep0 : Int) (nm : Bs) (R2 : List (List T)) (K2 need2 : Int) (ok b0 : Bool) (s : Bs) (no : Int) (hno : ¬ no = 0)
 (D1 D2 D3 D4 D5 D6 D7 E1 E2 E3 E4 E5 E6 E7 : List (List T)) (wo we wa : Int) (wr wp : Bs)
 (cD : CT Tryz.prog 5 [] [.sl 1 (z0f c)] (.tup [.agg [.sl 1 R, .int .i64 K, .int .i64 need], .int .i64 house, .str nm, .int .i64 ep0, .agg [.sl 2 B, .sl 1 S, .sl 1 T0, .int .i64 ho, .int .i64 ep, .str ro, .str pr, .int .i64 a, .sl 1 OP, .sl 1 SH, .sl 1 SI, .ref 1]]) [.deep 5 DT []])
 (c1 : CT Tryz.prog 6 [] [.agg [.sl 1 R, .int .i64 K, .int .i64 need], .int .i64 house, .str nm, .int .i64 ep0, .agg [.sl 2 B, .sl 1 S, .sl 1 T0, .int .i64 ho, .int .i64 ep, .str ro, .str pr, .int .i64 a, .sl 1 OP, .sl 1 SH, .sl 1 SI, .sl 5 (ucE DT)]] (.tup [.str [], .bool false, .int .i64 no]) [])
 (c2 : CT Tryz.prog 7 [] [.agg [.sl 1 R, .int .i64 K, .int .i64 need], .int .i64 house, .str nm, .int .i64 ep0, .agg [.sl 2 B, .sl 1 S, .sl 1 T0, .int .i64 ho, .int .i64 ep, .str ro, .str pr, .int .i64 a, .sl 1 OP, .sl 1 SH, .sl 1 SI, .sl 5 (ucE DT)]] (.tup [.str [], .bool false, .int .i64 no]) [])
 (c3 : CT Tryz.prog 8 [] [.sl 1 (z0f c)] (.str s) [])
 (c4 : CT Tryz.prog 9 [] [.str s] (.tup [.agg [.ref 1, .ref 2, .ref 3, .int .i64 wo, .int .i64 we, .str wr, .str wp, .int .i64 wa, .ref 4, .ref 5, .ref 6, .ref 7], .bool ok]) [.deep 2 D1 [], .deep 1 D2 [], .deep 1 D3 [], .deep 1 D4 [], .deep 1 D5 [], .deep 1 D6 [], .deep 5 D7 []])
 (c5 : CT Tryz.prog 10 [] [.str s] (.tup [.agg [.sl 2 E1, .sl 1 E2, .sl 1 E3, .int .i64 wo, .int .i64 we, .str wr, .str wp, .int .i64 wa, .sl 1 E4, .sl 1 E5, .sl 1 E6, .sl 5 E7], .bool ok]) [])
 (c6 : CT Tryz.prog 12 [] [.agg [.sl 2 (ucE D1), .sl 1 (ucE D2), .sl 1 (ucE D3), .int .i64 wo, .int .i64 we, .str wr, .str wp, .int .i64 wa, .sl 1 (ucE D4), .sl 1 (ucE D5), .sl 1 (ucE D6), .sl 5 (ucE D7)], .agg [.sl 2 E1, .sl 1 E2, .sl 1 E3, .int .i64 wo, .int .i64 we, .str wr, .str wp, .int .i64 wa, .sl 1 E4, .sl 1 E5, .sl 1 E6, .sl 5 E7]] (.bool true) [])
 (c7 : CT Tryz.prog 11 [] [.sl 1 (z0f c)] (.agg [.sl 1 R2, .int .i64 K2, .int .i64 need2]) [])
 (c8 : CT Tryz.prog 13 [] [.agg [.sl 1 R2, .int .i64 K2, .int .i64 need2]] (.bool b0) [])
 (c9 : CT Tryz.prog 14 [] [.agg [.sl 1 R2, .int .i64 K2, .int .i64 need2]] (.bool b0) []) : CT Tryz.prog 3 [] [.sl 1 (z0f c)] (.bool true) [] := by
 have y1 : ([] : Bs) = [] := rfl
 have y2 : false = false := rfl
 have y5 : no = no := rfl
 have y3 : ok = ok := rfl
 have y4 : b0 = b0 := rfl
 refine z01 z0d 1 rfl Tryz.func3 rfl rfl rfl ?_
 conv => arg 6; whnf
 repeat ((try conv => whnf); first | (with_reducible first | refine z0b (fun Qs hN hE hR => ?_) | refine z09 ?_ | refine z03 (fun Qb kN kE kX kR => ?_) | refine z05 ?_ | refine z06 ?_ | refine z0a ?_ | refine z07 ?_ | refine z08 ?_ | (show W _ _ _ (.cond _ _ _) _ _; refine z04 rfl ?_) | (refine hN _ ?_; try clear hN hE hR Qs; (try (conv => arg 6; dsimp only [ovl, List.set, List.map, ren0]))) | ((first | refine hE _ _ ?_ | refine hR _ ?_); try clear hN hE hR Qs) | ((first | refine kN _ ?_ | refine kE _ ?_ | refine kX _ _ rfl ?_ | refine kR _ ?_); try clear kN kE kX kR Qb)) | (refine ccA ([]) (cb) ?_) | (refine ccA ([]) (cD) ?_) | (refine ccA ([]) (c1) ?_) | (refine ccA ([]) (c2) ?_) | (refine ccA ([]) (c3) ?_) | (refine ccA ([]) (c4) ?_) | (refine ccA ([]) (c5) ?_) | (refine ccA ([]) (c7) ?_) | (refine z0i y1 ?_) | (refine z0i y2 ?_) | (refine z0i y5 ?_) | (refine z0k hno ?_) | (refine z0i y3 ?_) | (refine ccA ([]) (c6) ?_) | (refine ccA ([]) (c8) ?_) | (refine ccA ([]) (c9) ?_) | (refine z0i y4 ?_) | (refine And.intro (by kernel_rfl) ?_) | (refine stpQ ?_))
 (refine z00 (by rfl) ?_ ?_ (by rfl)) <;> (repeat' (first | (exact eqA) | (refine And.intro ?_ ?_) | ((fail_if_success (with_reducible (show _ = _))); (show _ = _)))) <;> first | rfl | (simp; done)
end
end Go.Proofs.YtgmbkbggnlponaaGreatDoor
