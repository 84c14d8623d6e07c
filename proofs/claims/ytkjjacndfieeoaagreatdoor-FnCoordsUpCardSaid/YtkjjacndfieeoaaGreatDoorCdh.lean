/- Functions by content: the coordinator of the reference hears a letter. -/
import Derived.Test.YtkjjacndfieeoaaGreatDoorCdw
namespace Go.Proofs.YtkjjacndfieeoaaGreatDoor
set_option maxRecDepth 100000
set_option maxHeartbeats 8000000
set_option linter.unusedVariables false
set_option linter.unusedSimpArgs false
set_option linter.unusedSectionVars false
open Go.RowKit Pl
theorem z4U (l : List Bs) (i : Nat) (x : Bs) : (strE l).set i [.str x] = strE (l.set i x) := by simp [strE, List.map_set]
theorem zjc (l : List Bool) (i : Nat) (x : Bool) : (boE l).set i [.bool x] = boE (l.set i x) := by simp [boE, List.map_set]
section
attribute [local irreducible] z0m z0n z0q AnsP LeP W CvE
theorem z4D (ho : Int) (K : Nat) (po : List Bs) (c : Co) (i : Nat) (e y : Int) (r : Bs) (hi : i < c.vo.length) (hd : c.dn.length = c.vo.length) (hb : c.vo.length ≤ 10) (hs : c.s.se.length ≤ 10) (k : Int) (ok : z04 k ((i + 1 : Nat) : Int) 0 e y r = false) : CT Tryz.prog 60 (coH ho (K : Int) po c) [.ptr 1 0 0, .agg [.int .i64 k, .int .i64 ((i + 1 : Nat) : Int), .int .i64 0, .int .i64 e, .int .i64 y, .str r]] (.sl 6 []) (coH ho (K : Int) po c) := by
 have hvl := z0d c.vo
 have hdl := z1F c.dn
 have hse := z0B c.s.se
 have cL := z1O k ((i + 1 : Nat) : Int) 0 e y r
 have cI := z0U ((i + 1 : Nat) : Int) 1 ((c.vo.length : Nat) : Int)
 rw [z0u.2 (show (1 : Int) ≤ ((i + 1 : Nat) : Int) ∧ ((i + 1 : Nat) : Int) ≤ ((c.vo.length : Nat) : Int) by omega)] at cI
 have z0 : (0 : Int) = 0 := rfl
 have zd : ((c.dn.length : Nat) : Int) = ((c.vo.length : Nat) : Int) := by omega
 have em : IntKind.i64.wrap (((i + 1 : Nat) : Int) - 1) = ((i : Nat) : Int) := by rw [wrap_i64 (by omega) (by omega)]; omega
 rw [ok] at cL
 unfold ltL at cL
 unfold coH coB
 generalize dkOf coordN c.ts = d0 at *
 generalize slE c.s.se = SE at *
 generalize ntE c.s.tr = TR at *
 generalize strE po = PO at *
 refine z01 z0r 6 rfl Tryz.func60 rfl rfl rfl ?_
 conv => arg 6; whnf
 repeat ((try conv => whnf); first | (with_reducible first | refine z0c (fun Qs hN hE hR => ?_) | refine z0a ?_ | refine z03 (fun Qb kN kE kX kR => ?_) | refine z06 ?_ | refine z07 ?_ | refine z0b ?_ | refine z08 ?_ | refine z09 ?_ | (show W _ _ _ (.cond _ _ _) _ _; refine z05 rfl ?_) | (refine hN _ ?_; try clear hN hE hR Qs; (try (conv => arg 6; dsimp only [ovl, List.set, List.map, ren0]))) | ((first | refine hE _ _ ?_ | refine hR _ ?_); try clear hN hE hR Qs) | ((first | refine kN _ ?_ | refine kE _ ?_ | refine kX _ _ rfl ?_ | refine kR _ ?_); try clear kN kE kX kR Qb)) | (refine Exists.intro c.vo.length (And.intro hvl ?_)) | (refine Exists.intro c.dn.length (And.intro hdl ?_)) | (refine Exists.intro c.s.se.length (And.intro hse ?_)) | (refine ccA ([]) (cL) ?_) | (refine ccA ([]) (cI) ?_) | (refine z0F z0 ?_) | (refine z0F zd ?_) | (refine Exists.intro _ (And.intro em.symm ?_)) | (refine And.intro (by simp only [List.length_append, List.length_set, List.length_replicate, List.length_cons, List.length_nil, List.nil_append]; omega) ?_) | (refine And.intro (by kernel_rfl) ?_) | (refine stpQ ?_))
 (refine z00 (by rfl) ?_ ?_ (by rfl)) <;> (repeat' (first | (exact eqA) | (refine And.intro ?_ ?_) | ((fail_if_success (with_reducible (show _ = _))); (show _ = _)))) <;> first | rfl | (simp; done)
theorem zad (ho : Int) (K : Nat) (po : List Bs) (c : Co) (i : Nat) (e y : Int) (r : Bs) (hi : i < c.vo.length) (hd : c.dn.length = c.vo.length) (hb : c.vo.length ≤ 10) (hs : c.s.se.length ≤ 10) (ok : z04 2 ((i + 1 : Nat) : Int) 0 e y r = true) (ha : c.ask = false) : CT Tryz.prog 60 (coH ho (K : Int) po c) [.ptr 1 0 0, .agg [.int .i64 2, .int .i64 ((i + 1 : Nat) : Int), .int .i64 0, .int .i64 e, .int .i64 y, .str r]] (.sl 6 []) (coH ho (K : Int) po c) := by
 have hvl := z0d c.vo
 have hdl := z1F c.dn
 have hse := z0B c.s.se
 have cL := z1O 2 ((i + 1 : Nat) : Int) 0 e y r
 have cI := z0U ((i + 1 : Nat) : Int) 1 ((c.vo.length : Nat) : Int)
 rw [z0u.2 (show (1 : Int) ≤ ((i + 1 : Nat) : Int) ∧ ((i + 1 : Nat) : Int) ≤ ((c.vo.length : Nat) : Int) by omega)] at cI
 have z0 : (0 : Int) = 0 := rfl
 have zd : ((c.dn.length : Nat) : Int) = ((c.vo.length : Nat) : Int) := by omega
 have em : IntKind.i64.wrap (((i + 1 : Nat) : Int) - 1) = ((i : Nat) : Int) := by rw [wrap_i64 (by omega) (by omega)]; omega
 rw [ok] at cL
 have q2 : (2 : Int) = 2 := rfl
 have n5 : ¬ (2 : Int) = 5 := by decide
 unfold ltL at cL
 unfold coH coB
 rw [ha]
 generalize dkOf coordN c.ts = d0 at *
 generalize slE c.s.se = SE at *
 generalize ntE c.s.tr = TR at *
 generalize strE po = PO at *
 refine z01 z0r 6 rfl Tryz.func60 rfl rfl rfl ?_
 conv => arg 6; whnf
 repeat ((try conv => whnf); first | (with_reducible first | refine z0c (fun Qs hN hE hR => ?_) | refine z0a ?_ | refine z03 (fun Qb kN kE kX kR => ?_) | refine z06 ?_ | refine z07 ?_ | refine z0b ?_ | refine z08 ?_ | refine z09 ?_ | (show W _ _ _ (.cond _ _ _) _ _; refine z05 rfl ?_) | (refine hN _ ?_; try clear hN hE hR Qs; (try (conv => arg 6; dsimp only [ovl, List.set, List.map, ren0]))) | ((first | refine hE _ _ ?_ | refine hR _ ?_); try clear hN hE hR Qs) | ((first | refine kN _ ?_ | refine kE _ ?_ | refine kX _ _ rfl ?_ | refine kR _ ?_); try clear kN kE kX kR Qb)) | (refine Exists.intro c.vo.length (And.intro hvl ?_)) | (refine Exists.intro c.dn.length (And.intro hdl ?_)) | (refine Exists.intro c.s.se.length (And.intro hse ?_)) | (refine ccA ([]) (cL) ?_) | (refine ccA ([]) (cI) ?_) | (refine z0F z0 ?_) | (refine z0F zd ?_) | (refine Exists.intro _ (And.intro em.symm ?_)) | (refine z0k q2 ?_) | (refine z0o n5 ?_) | (refine And.intro (by simp only [List.length_append, List.length_set, List.length_replicate, List.length_cons, List.length_nil, List.nil_append]; omega) ?_) | (refine And.intro (by kernel_rfl) ?_) | (refine stpQ ?_))
 (refine z00 (by rfl) ?_ ?_ (by rfl)) <;> (repeat' (first | (exact eqA) | (refine And.intro ?_ ?_) | ((fail_if_success (with_reducible (show _ = _))); (show _ = _)))) <;> first | rfl | (simp; done)
theorem zae (ho : Int) (K : Nat) (po : List Bs) (c : Co) (i : Nat) (e y : Int) (r : Bs) (hi : i < c.vo.length) (hd : c.dn.length = c.vo.length) (hb : c.vo.length ≤ 10) (hs : c.s.se.length ≤ 10) (ok : z04 2 ((i + 1 : Nat) : Int) 0 e y r = true) (ha : c.ask = true) (he : e = ((c.s.se.length + 1 : Nat) : Int)) (hy : y = (c.s.ty : Int)) (hv : ¬ c.vo.getD i [] = []) : CT Tryz.prog 60 (coH ho (K : Int) po c) [.ptr 1 0 0, .agg [.int .i64 2, .int .i64 ((i + 1 : Nat) : Int), .int .i64 0, .int .i64 e, .int .i64 y, .str r]] (.sl 6 []) (coH ho (K : Int) po c) := by
 have hvl := z0d c.vo
 have hdl := z1F c.dn
 have hse := z0B c.s.se
 have cL := z1O 2 ((i + 1 : Nat) : Int) 0 e y r
 have cI := z0U ((i + 1 : Nat) : Int) 1 ((c.vo.length : Nat) : Int)
 rw [z0u.2 (show (1 : Int) ≤ ((i + 1 : Nat) : Int) ∧ ((i + 1 : Nat) : Int) ≤ ((c.vo.length : Nat) : Int) by omega)] at cI
 have z0 : (0 : Int) = 0 := rfl
 have zd : ((c.dn.length : Nat) : Int) = ((c.vo.length : Nat) : Int) := by omega
 have em : IntKind.i64.wrap (((i + 1 : Nat) : Int) - 1) = ((i : Nat) : Int) := by rw [wrap_i64 (by omega) (by omega)]; omega
 rw [ok] at cL
 have q2 : (2 : Int) = 2 := rfl
 have gi : (strE c.vo)[i]? = some [.str (c.vo.getD i [])] := by simp [strE, List.getElem?_eq_getElem hi, List.getD]
 have fi : i < (strE c.vo).length := by omega
 unfold ltL at cL
 unfold coH coB
 rw [ha]
 generalize c.vo.getD i [] = vi at *
 generalize dkOf coordN c.ts = d0 at *
 generalize slE c.s.se = SE at *
 generalize ntE c.s.tr = TR at *
 generalize strE po = PO at *
 refine z01 z0r 6 rfl Tryz.func60 rfl rfl rfl ?_
 conv => arg 6; whnf
 repeat ((try conv => whnf); first | (with_reducible first | refine z0c (fun Qs hN hE hR => ?_) | refine z0a ?_ | refine z03 (fun Qb kN kE kX kR => ?_) | refine z06 ?_ | refine z07 ?_ | refine z0b ?_ | refine z08 ?_ | refine z09 ?_ | (show W _ _ _ (.cond _ _ _) _ _; refine z05 rfl ?_) | (refine hN _ ?_; try clear hN hE hR Qs; (try (conv => arg 6; dsimp only [ovl, List.set, List.map, ren0]))) | ((first | refine hE _ _ ?_ | refine hR _ ?_); try clear hN hE hR Qs) | ((first | refine kN _ ?_ | refine kE _ ?_ | refine kX _ _ rfl ?_ | refine kR _ ?_); try clear kN kE kX kR Qb)) | (refine Exists.intro c.vo.length (And.intro hvl ?_)) | (refine Exists.intro c.dn.length (And.intro hdl ?_)) | (refine Exists.intro c.s.se.length (And.intro hse ?_)) | (refine ccA ([]) (cL) ?_) | (refine ccA ([]) (cI) ?_) | (refine z0F z0 ?_) | (refine z0F zd ?_) | (refine Exists.intro _ (And.intro em.symm ?_)) | (refine z0k q2 ?_) | (refine z0k he ?_) | (refine z0k hy ?_) | (refine i_lt fi ?_) | (refine Exists.intro _ (And.intro gi ?_)) | (refine z0o hv ?_) | (refine And.intro (by simp only [List.length_append, List.length_set, List.length_replicate, List.length_cons, List.length_nil, List.nil_append]; omega) ?_) | (refine And.intro (by kernel_rfl) ?_) | (refine stpQ ?_))
 (refine z00 (by rfl) ?_ ?_ (by rfl)) <;> (repeat' (first | (exact eqA) | (refine And.intro ?_ ?_) | ((fail_if_success (with_reducible (show _ = _))); (show _ = _)))) <;> first | rfl | (simp; done)
theorem zaf (ho : Int) (K : Nat) (po : List Bs) (c : Co) (i : Nat) (e y : Int) (r : Bs) (hi : i < c.vo.length) (hd : c.dn.length = c.vo.length) (hb : c.vo.length ≤ 10) (hs : c.s.se.length ≤ 10) (ok : z04 2 ((i + 1 : Nat) : Int) 0 e y r = true) (ha : c.ask = true) (he : e = ((c.s.se.length + 1 : Nat) : Int)) (hy : y = (c.s.ty : Int)) (hv : c.vo.getD i [] = []) (hn : [] ∈ c.vo.set i r) : CT Tryz.prog 60 (coH ho (K : Int) po c) [.ptr 1 0 0, .agg [.int .i64 2, .int .i64 ((i + 1 : Nat) : Int), .int .i64 0, .int .i64 e, .int .i64 y, .str r]] (.sl 6 []) [coB ho (K : Int) po c.ts c.s.ty c.ask 2 3 4 5, .row 8 (slE c.s.se), .row 1 (ntE c.s.tr), .row 1 (strE (c.vo.set i r)), .row 1 (boE c.dn)] := by
 have hvl := z0d c.vo
 have hdl := z1F c.dn
 have hse := z0B c.s.se
 have cL := z1O 2 ((i + 1 : Nat) : Int) 0 e y r
 have cI := z0U ((i + 1 : Nat) : Int) 1 ((c.vo.length : Nat) : Int)
 rw [z0u.2 (show (1 : Int) ≤ ((i + 1 : Nat) : Int) ∧ ((i + 1 : Nat) : Int) ≤ ((c.vo.length : Nat) : Int) by omega)] at cI
 have z0 : (0 : Int) = 0 := rfl
 have zd : ((c.dn.length : Nat) : Int) = ((c.vo.length : Nat) : Int) := by omega
 have em : IntKind.i64.wrap (((i + 1 : Nat) : Int) - 1) = ((i : Nat) : Int) := by rw [wrap_i64 (by omega) (by omega)]; omega
 rw [ok] at cL
 have q2 : (2 : Int) = 2 := rfl
 have gi : (strE c.vo)[i]? = some [.str (c.vo.getD i [])] := by simp [strE, List.getElem?_eq_getElem hi, List.getD]
 have fi : i < (strE c.vo).length := by omega
 rw [hv] at gi
 have e0 : ([] : Bs) = [] := rfl
 have cC := z8V ho K po c.ts c.s.ty true (slE c.s.se) (ntE c.s.tr) (boE c.dn) (c.vo.set i r) hn (by rw [List.length_set]; exact hb)
 rw [← z4U] at cC ⊢
 unfold ltL at cL
 unfold coH coB
 unfold coB at cC
 rw [ha]
 generalize dkOf coordN c.ts = d0 at *
 generalize slE c.s.se = SE at *
 generalize ntE c.s.tr = TR at *
 generalize strE po = PO at *
 refine z01 z0r 6 rfl Tryz.func60 rfl rfl rfl ?_
 conv => arg 6; whnf
 repeat ((try conv => whnf); first | (with_reducible first | refine z0c (fun Qs hN hE hR => ?_) | refine z0a ?_ | refine z03 (fun Qb kN kE kX kR => ?_) | refine z06 ?_ | refine z07 ?_ | refine z0b ?_ | refine z08 ?_ | refine z09 ?_ | (show W _ _ _ (.cond _ _ _) _ _; refine z05 rfl ?_) | (refine hN _ ?_; try clear hN hE hR Qs; (try (conv => arg 6; dsimp only [ovl, List.set, List.map, ren0]))) | ((first | refine hE _ _ ?_ | refine hR _ ?_); try clear hN hE hR Qs) | ((first | refine kN _ ?_ | refine kE _ ?_ | refine kX _ _ rfl ?_ | refine kR _ ?_); try clear kN kE kX kR Qb)) | (refine Exists.intro c.vo.length (And.intro hvl ?_)) | (refine Exists.intro c.dn.length (And.intro hdl ?_)) | (refine Exists.intro c.s.se.length (And.intro hse ?_)) | (refine ccA ([]) (cL) ?_) | (refine ccA ([]) (cI) ?_) | (refine z0F z0 ?_) | (refine z0F zd ?_) | (refine Exists.intro _ (And.intro em.symm ?_)) | (refine z0k q2 ?_) | (refine z0k he ?_) | (refine z0k hy ?_) | (refine i_lt fi ?_) | (refine Exists.intro _ (And.intro gi ?_)) | (refine z0k e0 ?_) | (refine ccB ([1, 2, 3, 4, 5]) (cC) ?_) | (refine And.intro (by simp only [List.length_append, List.length_set, List.length_replicate, List.length_cons, List.length_nil, List.nil_append]; omega) ?_) | (refine And.intro (by kernel_rfl) ?_) | (refine stpQ ?_))
 (refine z00 (by rfl) ?_ ?_ (by rfl)) <;> (repeat' (first | (exact eqA) | (refine And.intro ?_ ?_) | ((fail_if_success (with_reducible (show _ = _))); (show _ = _)))) <;> first | rfl | (simp; done)
theorem zag (ho K m : Nat) (hh : ho ≤ 2) (hK : K ≤ 2) (c : Co) (h : CoOk ho K m c) (hm : m ≤ 100) (i : Nat) (e y : Int) (r : Bs) (hi : i < c.vo.length) (ok : z04 2 ((i + 1 : Nat) : Int) 0 e y r = true) (ha : c.ask = true) (he : e = ((c.s.se.length + 1 : Nat) : Int)) (hy : y = (c.s.ty : Int)) (hv : c.vo.getD i [] = []) (h2 : CoOk ho K m { c with vo := c.vo.set i r }) (hn : [] ∉ c.vo.set i r) : CT Tryz.prog 60 (coH (ho : Int) (K : Int) (z0g (z0j ho) 16) c) [.ptr 1 0 0, .agg [.int .i64 2, .int .i64 ((i + 1 : Nat) : Int), .int .i64 0, .int .i64 e, .int .i64 y, .str r]] (.ref 10)
 [coB (ho : Int) (K : Int) (z0g (z0j ho) 16) (cloC ho K { c with vo := c.vo.set i r }).ts c.s.ty false 6 7 8 9, .row 0 [], .row 0 [], .row 1 (strE (c.vo.set i r)), .row 1 (boE c.dn), .row 8 (slE (cloC ho K { c with vo := c.vo.set i r }).s.se), .row 1 (ntE (cloC ho K { c with vo := c.vo.set i r }).s.tr), .row 1 (emV (2 ^ K)), .row 1 (emD (2 ^ K)), .row 6 (ltsE 4 ((c.s.se.length + 1 : Nat) : Int) (c.s.ty : Int) (2 ^ K))] := by
 have hd : c.dn.length = c.vo.length := by rw [h.dl, h.vl]
 have hb : c.vo.length ≤ 10 := by
  have := (pow2 hK).2
  rw [h.vl]
  omega
 have hs : c.s.se.length ≤ 10 := by have := z1H (h.lg.ok hh); omega
 have hvl := z0d c.vo
 have hdl := z1F c.dn
 have hse := z0B c.s.se
 have cL := z1O 2 ((i + 1 : Nat) : Int) 0 e y r
 have cI := z0U ((i + 1 : Nat) : Int) 1 ((c.vo.length : Nat) : Int)
 rw [z0u.2 (show (1 : Int) ≤ ((i + 1 : Nat) : Int) ∧ ((i + 1 : Nat) : Int) ≤ ((c.vo.length : Nat) : Int) by omega)] at cI
 have z0 : (0 : Int) = 0 := rfl
 have zd : ((c.dn.length : Nat) : Int) = ((c.vo.length : Nat) : Int) := by omega
 have em : IntKind.i64.wrap (((i + 1 : Nat) : Int) - 1) = ((i : Nat) : Int) := by rw [wrap_i64 (by omega) (by omega)]; omega
 rw [ok] at cL
 have q2 : (2 : Int) = 2 := rfl
 have gi : (strE c.vo)[i]? = some [.str (c.vo.getD i [])] := by simp [strE, List.getElem?_eq_getElem hi, List.getD]
 have fi : i < (strE c.vo).length := by omega
 rw [hv] at gi
 have e0 : ([] : Bs) = [] := rfl
 have cC := z73 ho K m hh hK { c with vo := c.vo.set i r } h2 hm ha hn
 unfold coH at cC ⊢
 simp only at cC
 rw [ha] at cC ⊢
 rw [← z4U] at cC ⊢
 unfold ltL at cL
 clear h h2
 unfold coB at *
 generalize (cloC ho K { c with vo := c.vo.set i r }).ts = ts2 at *
 generalize slE (cloC ho K { c with vo := c.vo.set i r }).s.se = SE2 at *
 generalize ntE (cloC ho K { c with vo := c.vo.set i r }).s.tr = TR2 at *
 generalize dkOf coordN ts2 = d2 at *
 generalize dkOf coordN c.ts = d0 at *
 generalize slE c.s.se = SE at *
 generalize ntE c.s.tr = TR at *
 generalize strE (z0g (z0j ho) 16) = PO at *
 refine z01 z0r 6 rfl Tryz.func60 rfl rfl rfl ?_
 conv => arg 6; whnf
 repeat ((try conv => whnf); first | (with_reducible first | refine z0c (fun Qs hN hE hR => ?_) | refine z0a ?_ | refine z03 (fun Qb kN kE kX kR => ?_) | refine z06 ?_ | refine z07 ?_ | refine z0b ?_ | refine z08 ?_ | refine z09 ?_ | (show W _ _ _ (.cond _ _ _) _ _; refine z05 rfl ?_) | (refine hN _ ?_; try clear hN hE hR Qs; (try (conv => arg 6; dsimp only [ovl, List.set, List.map, ren0]))) | ((first | refine hE _ _ ?_ | refine hR _ ?_); try clear hN hE hR Qs) | ((first | refine kN _ ?_ | refine kE _ ?_ | refine kX _ _ rfl ?_ | refine kR _ ?_); try clear kN kE kX kR Qb)) | (refine Exists.intro c.vo.length (And.intro hvl ?_)) | (refine Exists.intro c.dn.length (And.intro hdl ?_)) | (refine Exists.intro c.s.se.length (And.intro hse ?_)) | (refine ccA ([]) (cL) ?_) | (refine ccA ([]) (cI) ?_) | (refine z0F z0 ?_) | (refine z0F zd ?_) | (refine Exists.intro _ (And.intro em.symm ?_)) | (refine z0k q2 ?_) | (refine z0k he ?_) | (refine z0k hy ?_) | (refine i_lt fi ?_) | (refine Exists.intro _ (And.intro gi ?_)) | (refine z0k e0 ?_) | (refine ccB ([1, 2, 3, 4, 5]) (cC) ?_) | (refine And.intro (by simp only [List.length_append, List.length_set, List.length_replicate, List.length_cons, List.length_nil, List.nil_append]; omega) ?_) | (refine And.intro (by kernel_rfl) ?_) | (refine stpQ ?_))
 (refine z00 (by rfl) ?_ ?_ (by rfl)) <;> (repeat' (first | (exact eqA) | (refine And.intro ?_ ?_) | ((fail_if_success (with_reducible (show _ = _))); (show _ = _)))) <;> first | rfl | (simp; done)
theorem zah (ho : Int) (K : Nat) (po : List Bs) (c : Co) (i : Nat) (e y : Int) (r : Bs) (hi : i < c.vo.length) (hd : c.dn.length = c.vo.length) (hb : c.vo.length ≤ 10) (hs : c.s.se.length ≤ 10) (ok : z04 5 ((i + 1 : Nat) : Int) 0 e y r = true) (he : e = ((c.s.se.length : Nat) : Int)) : CT Tryz.prog 60 (coH ho (K : Int) po c) [.ptr 1 0 0, .agg [.int .i64 5, .int .i64 ((i + 1 : Nat) : Int), .int .i64 0, .int .i64 e, .int .i64 y, .str r]] (.sl 6 []) [coB ho (K : Int) po c.ts c.s.ty c.ask 2 3 4 5, .row 8 (slE c.s.se), .row 1 (ntE c.s.tr), .row 1 (strE c.vo), .row 1 (boE (c.dn.set i true))] := by
 have hvl := z0d c.vo
 have hdl := z1F c.dn
 have hse := z0B c.s.se
 have cL := z1O 5 ((i + 1 : Nat) : Int) 0 e y r
 have cI := z0U ((i + 1 : Nat) : Int) 1 ((c.vo.length : Nat) : Int)
 rw [z0u.2 (show (1 : Int) ≤ ((i + 1 : Nat) : Int) ∧ ((i + 1 : Nat) : Int) ≤ ((c.vo.length : Nat) : Int) by omega)] at cI
 have z0 : (0 : Int) = 0 := rfl
 have zd : ((c.dn.length : Nat) : Int) = ((c.vo.length : Nat) : Int) := by omega
 have em : IntKind.i64.wrap (((i + 1 : Nat) : Int) - 1) = ((i : Nat) : Int) := by rw [wrap_i64 (by omega) (by omega)]; omega
 rw [ok] at cL
 have q5 : (5 : Int) = 5 := rfl
 have n2 : ¬ (5 : Int) = 2 := by decide
 have gd : (boE c.dn)[i]? = some [.bool (c.dn.getD i false)] := by
  have h6 : i < c.dn.length := by omega
  simp [boE, List.getElem?_eq_getElem h6, List.getD]
 have fd : i < (boE c.dn).length := by omega
 rw [← zjc]
 unfold ltL at cL
 unfold coH coB
 generalize c.dn.getD i false = di at *
 generalize dkOf coordN c.ts = d0 at *
 generalize slE c.s.se = SE at *
 generalize ntE c.s.tr = TR at *
 generalize strE po = PO at *
 refine z01 z0r 6 rfl Tryz.func60 rfl rfl rfl ?_
 conv => arg 6; whnf
 repeat ((try conv => whnf); first | (with_reducible first | refine z0c (fun Qs hN hE hR => ?_) | refine z0a ?_ | refine z03 (fun Qb kN kE kX kR => ?_) | refine z06 ?_ | refine z07 ?_ | refine z0b ?_ | refine z08 ?_ | refine z09 ?_ | (show W _ _ _ (.cond _ _ _) _ _; refine z05 rfl ?_) | (refine hN _ ?_; try clear hN hE hR Qs; (try (conv => arg 6; dsimp only [ovl, List.set, List.map, ren0]))) | ((first | refine hE _ _ ?_ | refine hR _ ?_); try clear hN hE hR Qs) | ((first | refine kN _ ?_ | refine kE _ ?_ | refine kX _ _ rfl ?_ | refine kR _ ?_); try clear kN kE kX kR Qb)) | (refine Exists.intro c.vo.length (And.intro hvl ?_)) | (refine Exists.intro c.dn.length (And.intro hdl ?_)) | (refine Exists.intro c.s.se.length (And.intro hse ?_)) | (refine ccA ([]) (cL) ?_) | (refine ccA ([]) (cI) ?_) | (refine z0F z0 ?_) | (refine z0F zd ?_) | (refine Exists.intro _ (And.intro em.symm ?_)) | (refine z0o n2 ?_) | (refine z0k q5 ?_) | (refine z0k he ?_) | (refine i_lt fd ?_) | (refine Exists.intro _ (And.intro gd ?_)) | (refine And.intro (by simp only [List.length_append, List.length_set, List.length_replicate, List.length_cons, List.length_nil, List.nil_append]; omega) ?_) | (refine And.intro (by kernel_rfl) ?_) | (refine stpQ ?_))
 (refine z00 (by rfl) ?_ ?_ (by rfl)) <;> (repeat' (first | (exact eqA) | (refine And.intro ?_ ?_) | ((fail_if_success (with_reducible (show _ = _))); (show _ = _)))) <;> first | rfl | (simp; done)
end
end Go.Proofs.YtkjjacndfieeoaaGreatDoor
