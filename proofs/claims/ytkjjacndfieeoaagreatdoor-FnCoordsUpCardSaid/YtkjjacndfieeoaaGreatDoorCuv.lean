/- Functions by content: the program's coordinator hears a letter. Functions by content: the program's coordinator hears the last vote. -/
import Derived.Test.YtkjjacndfieeoaaGreatDoorCit
import Derived.Test.YtkjjacndfieeoaaGreatDoorCdh
import Derived.Test.YtkjjacndfieeoaaGreatDoorLab
namespace Go.Proofs.YtkjjacndfieeoaaGreatDoor
set_option maxRecDepth 100000
set_option maxHeartbeats 8000000
set_option linter.unusedVariables false
set_option linter.unusedSimpArgs false
set_option linter.unusedSectionVars false
open Go.RowKit Pl
section
attribute [local irreducible] z0m z0n z0q AnsP LeP W CvE
theorem zdS (ho : Int) (K : Nat) (po : List Bs) (c : Co) (hz : (logB c.ts).length ≤ 18000) (hp : (po.length : Int) ≤ 100000) (hg : ∀ x ∈ c.s.se, x.2.good) (hl : c.s.se.length ≤ 10 ∧ c.s.tr.length ≤ 10 ∧ c.vo.length ≤ 10 ∧ c.dn.length ≤ 10) (i : Nat) (e y : Int) (r : Bs) (hi : i < c.vo.length) (hd : c.dn.length = c.vo.length) (ok : z04 2 ((i + 1 : Nat) : Int) 0 e y r = true) (ha : c.ask = false) : CT Tryz.prog 13 [] [.agg (coE ho (K : Int) po c), .agg [.int .i64 2, .int .i64 ((i + 1 : Nat) : Int), .int .i64 0, .int .i64 e, .int .i64 y, .str r]] (.tup [.agg (coE ho (K : Int) po c), .sl 6 []]) [] := by
 have c1 := z1l ho (K : Int) true c.ask (dkOf coordN c.ts) po c.vo c.s.se c.s.tr c.dn (c.s.ty : Int) (by have := (z1k (n := coordN) (by decide) hz).1; omega) (by omega) (by omega) hg (by omega) (by omega) (by omega)
 have hse := z0B c.s.se
 have hvl := z0d c.vo
 have hdl := z1F c.dn
 have cL := z4T 2 ((i + 1 : Nat) : Int) 0 e y r
 have cI := c_in ((i + 1 : Nat) : Int) 1 ((c.vo.length : Nat) : Int)
 rw [z0u.2 (show (1 : Int) ≤ ((i + 1 : Nat) : Int) ∧ ((i + 1 : Nat) : Int) ≤ ((c.vo.length : Nat) : Int) by omega)] at cI
 have z0 : (0 : Int) = 0 := rfl
 have zd : ((c.vo.length : Nat) : Int) = ((c.dn.length : Nat) : Int) := by omega
 have em : IntKind.i64.wrap (((i + 1 : Nat) : Int) - 1) = ((i : Nat) : Int) := by rw [wrap_i64 (by omega) (by omega)]; omega
 rw [ok] at cL
 have q2 : (2 : Int) = 2 := rfl
 have n5 : ¬ (2 : Int) = 5 := by decide
 unfold ltL at cL
 clear hz hp hg
 unfold coE
 rw [ha] at *
 generalize flE (dkOf coordN c.ts) = d0 at *
 generalize slE c.s.se = SE at *
 generalize ntE c.s.tr = TR at *
 generalize boE c.dn = DN at *
 generalize strE po = PO at *
 generalize strE c.vo = VO at *
 refine z01 z0r 1 rfl Tryz.func13 rfl rfl rfl ?_
 conv => arg 6; whnf
 by_cases he : e = ((c.s.se.length + 1 : Nat) : Int)
 ·by_cases hy : y = (c.s.ty : Int)
  ·repeat ((try conv => whnf); first | (with_reducible first | refine z0c (fun Qs hN hE hR => ?_) | refine z0a ?_ | refine z03 (fun Qb kN kE kX kR => ?_) | refine z06 ?_ | refine z07 ?_ | refine z0b ?_ | refine z08 ?_ | refine z09 ?_ | (show W _ _ _ (.cond _ _ _) _ _; refine z05 rfl ?_) | (refine hN _ ?_; try clear hN hE hR Qs; (try (conv => arg 6; dsimp only [ovl, List.set, List.map, ren0]))) | ((first | refine hE _ _ ?_ | refine hR _ ?_); try clear hN hE hR Qs) | ((first | refine kN _ ?_ | refine kE _ ?_ | refine kX _ _ rfl ?_ | refine kR _ ?_); try clear kN kE kX kR Qb)) | (refine ccA ([]) (c1) ?_) | (refine Exists.intro c.vo.length (And.intro hvl ?_)) | (refine Exists.intro c.dn.length (And.intro hdl ?_)) | (refine Exists.intro c.s.se.length (And.intro hse ?_)) | (refine ccA ([]) (cL) ?_) | (refine ccA ([]) (cI) ?_) | (refine z0F z0 ?_) | (refine z0F zd ?_) | (refine Exists.intro _ (And.intro em.symm ?_)) | (refine z0k q2 ?_) | (refine z0o n5 ?_) | (refine z0k he ?_) | (refine z0k hy ?_) | (refine And.intro (by kernel_rfl) ?_) | (refine stpQ ?_))
   (refine z00 (by rfl) ?_ ?_ (by rfl)) <;> (repeat' (first | (exact eqA) | (refine And.intro ?_ ?_) | ((fail_if_success (with_reducible (show _ = _))); (show _ = _)))) <;> first | rfl | (simp; done)
  ·repeat ((try conv => whnf); first | (with_reducible first | refine z0c (fun Qs hN hE hR => ?_) | refine z0a ?_ | refine z03 (fun Qb kN kE kX kR => ?_) | refine z06 ?_ | refine z07 ?_ | refine z0b ?_ | refine z08 ?_ | refine z09 ?_ | (show W _ _ _ (.cond _ _ _) _ _; refine z05 rfl ?_) | (refine hN _ ?_; try clear hN hE hR Qs; (try (conv => arg 6; dsimp only [ovl, List.set, List.map, ren0]))) | ((first | refine hE _ _ ?_ | refine hR _ ?_); try clear hN hE hR Qs) | ((first | refine kN _ ?_ | refine kE _ ?_ | refine kX _ _ rfl ?_ | refine kR _ ?_); try clear kN kE kX kR Qb)) | (refine ccA ([]) (c1) ?_) | (refine Exists.intro c.vo.length (And.intro hvl ?_)) | (refine Exists.intro c.dn.length (And.intro hdl ?_)) | (refine Exists.intro c.s.se.length (And.intro hse ?_)) | (refine ccA ([]) (cL) ?_) | (refine ccA ([]) (cI) ?_) | (refine z0F z0 ?_) | (refine z0F zd ?_) | (refine Exists.intro _ (And.intro em.symm ?_)) | (refine z0k q2 ?_) | (refine z0o n5 ?_) | (refine z0k he ?_) | (refine z0o hy ?_) | (refine And.intro (by kernel_rfl) ?_) | (refine stpQ ?_))
   (refine z00 (by rfl) ?_ ?_ (by rfl)) <;> (repeat' (first | (exact eqA) | (refine And.intro ?_ ?_) | ((fail_if_success (with_reducible (show _ = _))); (show _ = _)))) <;> first | rfl | (simp; done)
 ·repeat ((try conv => whnf); first | (with_reducible first | refine z0c (fun Qs hN hE hR => ?_) | refine z0a ?_ | refine z03 (fun Qb kN kE kX kR => ?_) | refine z06 ?_ | refine z07 ?_ | refine z0b ?_ | refine z08 ?_ | refine z09 ?_ | (show W _ _ _ (.cond _ _ _) _ _; refine z05 rfl ?_) | (refine hN _ ?_; try clear hN hE hR Qs; (try (conv => arg 6; dsimp only [ovl, List.set, List.map, ren0]))) | ((first | refine hE _ _ ?_ | refine hR _ ?_); try clear hN hE hR Qs) | ((first | refine kN _ ?_ | refine kE _ ?_ | refine kX _ _ rfl ?_ | refine kR _ ?_); try clear kN kE kX kR Qb)) | (refine ccA ([]) (c1) ?_) | (refine Exists.intro c.vo.length (And.intro hvl ?_)) | (refine Exists.intro c.dn.length (And.intro hdl ?_)) | (refine Exists.intro c.s.se.length (And.intro hse ?_)) | (refine ccA ([]) (cL) ?_) | (refine ccA ([]) (cI) ?_) | (refine z0F z0 ?_) | (refine z0F zd ?_) | (refine Exists.intro _ (And.intro em.symm ?_)) | (refine z0k q2 ?_) | (refine z0o n5 ?_) | (refine z0o he ?_) | (refine And.intro (by kernel_rfl) ?_) | (refine stpQ ?_))
  (refine z00 (by rfl) ?_ ?_ (by rfl)) <;> (repeat' (first | (exact eqA) | (refine And.intro ?_ ?_) | ((fail_if_success (with_reducible (show _ = _))); (show _ = _)))) <;> first | rfl | (simp; done)
theorem zdT (ho : Int) (K : Nat) (po : List Bs) (c : Co) (hz : (logB c.ts).length ≤ 18000) (hp : (po.length : Int) ≤ 100000) (hg : ∀ x ∈ c.s.se, x.2.good) (hl : c.s.se.length ≤ 10 ∧ c.s.tr.length ≤ 10 ∧ c.vo.length ≤ 10 ∧ c.dn.length ≤ 10) (i : Nat) (e y : Int) (r : Bs) (hi : i < c.vo.length) (hd : c.dn.length = c.vo.length) (ok : z04 2 ((i + 1 : Nat) : Int) 0 e y r = true) (ha : c.ask = true) (he : e = ((c.s.se.length + 1 : Nat) : Int)) (hy : y = (c.s.ty : Int)) (hv : c.vo.getD i [] = []) (hn : [] ∈ c.vo.set i r) : CT Tryz.prog 13 [] [.agg (coE ho (K : Int) po c), .agg [.int .i64 2, .int .i64 ((i + 1 : Nat) : Int), .int .i64 0, .int .i64 e, .int .i64 y, .str r]] (.tup [.agg (coE ho (K : Int) po { c with vo := c.vo.set i r }), .sl 6 []]) [] := by
 have c1 := z1l ho (K : Int) true c.ask (dkOf coordN c.ts) po c.vo c.s.se c.s.tr c.dn (c.s.ty : Int) (by have := (z1k (n := coordN) (by decide) hz).1; omega) (by omega) (by omega) hg (by omega) (by omega) (by omega)
 have hse := z0B c.s.se
 have hvl := z0d c.vo
 have hdl := z1F c.dn
 have cL := z4T 2 ((i + 1 : Nat) : Int) 0 e y r
 have cI := c_in ((i + 1 : Nat) : Int) 1 ((c.vo.length : Nat) : Int)
 rw [z0u.2 (show (1 : Int) ≤ ((i + 1 : Nat) : Int) ∧ ((i + 1 : Nat) : Int) ≤ ((c.vo.length : Nat) : Int) by omega)] at cI
 have z0 : (0 : Int) = 0 := rfl
 have zd : ((c.vo.length : Nat) : Int) = ((c.dn.length : Nat) : Int) := by omega
 have em : IntKind.i64.wrap (((i + 1 : Nat) : Int) - 1) = ((i : Nat) : Int) := by rw [wrap_i64 (by omega) (by omega)]; omega
 rw [ok] at cL
 have gi : (strE c.vo)[i]? = some [.str (c.vo.getD i [])] := by simp [strE, List.getElem?_eq_getElem hi, List.getD]
 have fi : i < (strE c.vo).length := by omega
 rw [hv] at gi
 have e0 : ([] : Bs) = [] := rfl
 have q2 : (2 : Int) = 2 := rfl
 have hgi : ∀ j (hj : j < (c.vo.set i r).length), (strE (c.vo.set i r))[j]? = some [.str (c.vo.set i r)[j]] := fun j hj => by simp only [strE, List.getElem?_map, List.getElem?_eq_getElem hj]; rfl
 have hwl : (strE (c.vo.set i r)).length = (c.vo.set i r).length := z0d _
 have hw10 : (c.vo.set i r).length ≤ 10 := by rw [List.length_set]; omega
 rw [← z4U] at hgi hwl
 obtain ⟨k, hk, ek⟩ := List.getElem_of_mem hn
 unfold ltL at cL
 clear hz hp hg hn
 unfold coE
 (try dsimp only)
 rw [← z4U]
 rw [ha] at *
 generalize flE (dkOf coordN c.ts) = d0 at *
 generalize slE c.s.se = SE at *
 generalize ntE c.s.tr = TR at *
 generalize boE c.dn = DN at *
 generalize strE po = PO at *
 generalize strE c.vo = VO at *
 generalize c.vo.set i r = vo at *
 refine z01 z0r 1 rfl Tryz.func13 rfl rfl rfl ?_
 conv => arg 6; whnf
 repeat ((try conv => whnf); first | (with_reducible first | refine z0c (fun Qs hN hE hR => ?_) | refine z0a ?_ | refine z03 (fun Qb kN kE kX kR => ?_) | refine z06 ?_ | refine z07 ?_ | refine z0b ?_ | refine z08 ?_ | refine z09 ?_ | (show W _ _ _ (.cond _ _ _) _ _; refine z05 rfl ?_) | (refine hN _ ?_; try clear hN hE hR Qs; (try (conv => arg 6; dsimp only [ovl, List.set, List.map, ren0]))) | ((first | refine hE _ _ ?_ | refine hR _ ?_); try clear hN hE hR Qs) | ((first | refine kN _ ?_ | refine kE _ ?_ | refine kX _ _ rfl ?_ | refine kR _ ?_); try clear kN kE kX kR Qb)) | (refine ccA ([]) (c1) ?_) | (refine Exists.intro c.vo.length (And.intro hvl ?_)) | (refine Exists.intro c.dn.length (And.intro hdl ?_)) | (refine Exists.intro c.s.se.length (And.intro hse ?_)) | (refine ccA ([]) (cL) ?_) | (refine ccA ([]) (cI) ?_) | (refine z0F z0 ?_) | (refine z0F zd ?_) | (refine Exists.intro _ (And.intro em.symm ?_)) | (refine z0k q2 ?_) | (refine z0k he ?_) | (refine z0k hy ?_) | (refine i_at gi ?_) | (refine i_lt fi ?_) | (refine Exists.intro _ (And.intro gi ?_)) | (refine z0k e0 ?_) | (refine Exists.intro vo.length (And.intro hwl ?_)) | (refine And.intro (by kernel_rfl) ?_) | (refine stpQ ?_))
 refine z11 Nat (fun j => ⟨[(4, .ptr 1 0 0), (5, .val nilV), (6, .ptr 2 0 0), (87, .ref 5), (88, .int .i64 ((vo.length : Nat) : Int)), (89, .int .i64 (j : Int))], [(1, some (.box [.int .i64 0, .int .i64 0, .bool false, .val nilV, .val nilV, .val nilV, .val nilV, .int .i64 0, .bool false, .val nilV, .val nilV])), (2, some (.box [.int .i64 ho, .int .i64 (K : Int), .bool true, .sl 3 d0, .sl 1 PO, .ref 3, .ref 4, .int .i64 (c.s.ty : Int), .bool true, .ref 5, .ref 6])), (3, some (.row 8 SE)), (4, some (.row 1 TR)), (5, some (.row 1 (VO.set i [.str r]))), (6, some (.row 1 DN))], 7⟩) (fun j => j ≤ k) (fun j => k - j) 0 (Nat.zero_le _) ?_ ?_
 ·(refine z02 (by rfl) ?_ ?_) <;> (repeat' (first | (exact eqA) | (refine And.intro ?_ ?_) | ((fail_if_success (with_reducible (show _ = _))); (show _ = _)))) <;> first | rfl | (simp; done)
 ·intro Q1 hQ1 j hj
  have hlt : j < vo.length := by omega
  have f1 : (j : Int) < ((vo.length : Nat) : Int) := by omega
  have gj := hgi j hlt
  have f2 : j < (VO.set i [.str r]).length := by omega
  by_cases hc : vo[j] = []
  ·rw [hc] at gj
   repeat ((try conv => whnf); first | (with_reducible first | refine z0c (fun Qs hN hE hR => ?_) | refine z0a ?_ | refine z03 (fun Qb kN kE kX kR => ?_) | refine z06 ?_ | refine z07 ?_ | refine z0b ?_ | refine z08 ?_ | refine z09 ?_ | (show W _ _ _ (.cond _ _ _) _ _; refine z05 rfl ?_) | (refine hN _ ?_; try clear hN hE hR Qs; (try (conv => arg 6; dsimp only [ovl, List.set, List.map, ren0]))) | ((first | refine hE _ _ ?_ | refine hR _ ?_); try clear hN hE hR Qs) | ((first | refine kN _ ?_ | refine kE _ ?_ | refine kX _ _ rfl ?_ | refine kR _ ?_); try clear kN kE kX kR Qb)) | (refine z0k f1 ?_) | (refine i_lt f2 ?_) | (refine Exists.intro _ (And.intro gj ?_)) | (refine z0k e0 ?_) | (refine And.intro (by kernel_rfl) ?_) | (refine stpQ ?_))
   refine hQ1 _ _ ?_
   clear hQ1 Q1
   repeat ((try conv => whnf); first | (with_reducible first | refine z0c (fun Qs hN hE hR => ?_) | refine z0a ?_ | refine z03 (fun Qb kN kE kX kR => ?_) | refine z06 ?_ | refine z07 ?_ | refine z0b ?_ | refine z08 ?_ | refine z09 ?_ | (show W _ _ _ (.cond _ _ _) _ _; refine z05 rfl ?_) | (refine hN _ ?_; try clear hN hE hR Qs; (try (conv => arg 6; dsimp only [ovl, List.set, List.map, ren0]))) | ((first | refine hE _ _ ?_ | refine hR _ ?_); try clear hN hE hR Qs) | ((first | refine kN _ ?_ | refine kE _ ?_ | refine kX _ _ rfl ?_ | refine kR _ ?_); try clear kN kE kX kR Qb)) | (refine And.intro (by kernel_rfl) ?_) | (refine stpQ ?_))
   (refine z00 (by rfl) ?_ ?_ (by rfl)) <;> (repeat' (first | (exact eqA) | (refine And.intro ?_ ?_) | ((fail_if_success (with_reducible (show _ = _))); (show _ = _)))) <;> first | rfl | (simp; done)
  ·have hjk : j < k := by
    rcases Nat.lt_or_ge j k with h | h
    ·exact h
    ·obtain rfl : j = k := by omega
     exact absurd ek hc
   have f3 : ¬ vo[j] = [] := hc
   clear hc
   generalize vo[j] = z at *
   repeat ((try conv => whnf); first | (with_reducible first | refine z0c (fun Qs hN hE hR => ?_) | refine z0a ?_ | refine z03 (fun Qb kN kE kX kR => ?_) | refine z06 ?_ | refine z07 ?_ | refine z0b ?_ | refine z08 ?_ | refine z09 ?_ | (show W _ _ _ (.cond _ _ _) _ _; refine z05 rfl ?_) | (refine hN _ ?_; try clear hN hE hR Qs; (try (conv => arg 6; dsimp only [ovl, List.set, List.map, ren0]))) | ((first | refine hE _ _ ?_ | refine hR _ ?_); try clear hN hE hR Qs) | ((first | refine kN _ ?_ | refine kE _ ?_ | refine kX _ _ rfl ?_ | refine kR _ ?_); try clear kN kE kX kR Qb)) | (refine z0k f1 ?_) | (refine i_lt f2 ?_) | (refine Exists.intro _ (And.intro gj ?_)) | (refine z0o f3 ?_) | (refine And.intro (by kernel_rfl) ?_) | (refine stpQ ?_))
   refine ⟨j + 1, hjk, by omega, ?_⟩
   (refine z02 (by rfl) ?_ ?_) <;> (repeat' (first | (exact eqA) | (refine And.intro ?_ ?_) | ((fail_if_success (with_reducible (show _ = _))); (show _ = _)))) <;> rfl
end
end Go.Proofs.YtkjjacndfieeoaaGreatDoor
namespace Go.Proofs.YtkjjacndfieeoaaGreatDoor
set_option linter.unusedVariables false
set_option linter.unusedSimpArgs false
set_option linter.unusedSectionVars false
open Go.RowKit Pl
theorem zjd (ho K : Nat) (po : List Bs) (c : Co) : coE (ho : Int) (K : Int) po (cloC ho K c) = [.int .i64 (ho : Int), .int .i64 (K : Int), .bool true, .sl 3 (flE (dkOf coordN (cloC ho K c).ts)), .sl 1 (strE po), .sl 8 (slE (cloC ho K c).s.se), .sl 1 (ntE (cloC ho K c).s.tr), .int .i64 (c.s.ty : Int), .bool false, .sl 1 (emV (2 ^ K)), .sl 1 (emD (2 ^ K))] := by
 rw [← z8R, ← zhg]; rfl
section
attribute [local irreducible] z0m z0n z0q AnsP LeP W CvE
set_option maxRecDepth 100000 in
set_option maxHeartbeats 8000000 in
theorem zdU (ho K m : Nat) (hh : ho ≤ 2) (hK : K ≤ 2) (c : Co) (h : CoOk ho K m c) (hm : m ≤ 100) (i : Nat) (e y : Int) (r : Bs) (hi : i < c.vo.length) (ok : z04 2 ((i + 1 : Nat) : Int) 0 e y r = true) (ha : c.ask = true) (he : e = ((c.s.se.length + 1 : Nat) : Int)) (hy : y = (c.s.ty : Int)) (hv : c.vo.getD i [] = []) (h2 : CoOk ho K m { c with vo := c.vo.set i r }) (hn : [] ∉ c.vo.set i r) (hse2 : ∀ x ∈ c.s.se, x.2.good) : CT Tryz.prog 13 [] [.agg (coE (ho : Int) (K : Int) (z0g (z0j ho) 16) c), .agg [.int .i64 2, .int .i64 ((i + 1 : Nat) : Int), .int .i64 0, .int .i64 e, .int .i64 y, .str r]] (.tup [.agg (coE (ho : Int) (K : Int) (z0g (z0j ho) 16) (cloC ho K { c with vo := c.vo.set i r })), .sl 6 (ltsE 4 ((c.s.se.length + 1 : Nat) : Int) (c.s.ty : Int) (2 ^ K))]) [] := by
 have hok := h.lg.ok hh
 have hd : c.dn.length = c.vo.length := by rw [h.dl, h.vl]
 obtain ⟨e1, e2⟩ := pow2 hK
 have hvl2 := h.vl
 have hl : c.s.se.length ≤ 10 ∧ c.s.tr.length ≤ 10 ∧ c.vo.length ≤ 10 ∧ c.dn.length ≤ 10 := ⟨by have := z1H hok; omega, by have := z1H hok; rw [hok.tl]; omega, by omega, by omega⟩
 have hz : (logB c.ts).length ≤ 18000 := by have := h.lg.small hh hm; omega
 have hp : ((z0g (z0j ho) 16).length : Int) ≤ 100000 := by rw [z0H]; decide
 have hg := hse2
 have c1 := z1l (ho : Int) (K : Int) true c.ask (dkOf coordN c.ts) (z0g (z0j ho) 16) c.vo c.s.se c.s.tr c.dn (c.s.ty : Int) (by have := (z1k (n := coordN) (by decide) hz).1; omega) (by omega) (by omega) hg (by omega) (by omega) (by omega)
 have hse := z0B c.s.se
 have hvl := z0d c.vo
 have hdl := z1F c.dn
 have cL := z4T 2 ((i + 1 : Nat) : Int) 0 e y r
 have cI := c_in ((i + 1 : Nat) : Int) 1 ((c.vo.length : Nat) : Int)
 rw [z0u.2 (show (1 : Int) ≤ ((i + 1 : Nat) : Int) ∧ ((i + 1 : Nat) : Int) ≤ ((c.vo.length : Nat) : Int) by omega)] at cI
 have z0 : (0 : Int) = 0 := rfl
 have zd : ((c.vo.length : Nat) : Int) = ((c.dn.length : Nat) : Int) := by omega
 have em : IntKind.i64.wrap (((i + 1 : Nat) : Int) - 1) = ((i : Nat) : Int) := by rw [wrap_i64 (by omega) (by omega)]; omega
 rw [ok] at cL
 have gi : (strE c.vo)[i]? = some [.str (c.vo.getD i [])] := by simp [strE, List.getElem?_eq_getElem hi, List.getD]
 have fi : i < (strE c.vo).length := by omega
 rw [hv] at gi
 have e0 : ([] : Bs) = [] := rfl
 have q2 : (2 : Int) = 2 := rfl
 have hgi : ∀ j (hj : j < (c.vo.set i r).length), (strE (c.vo.set i r))[j]? = some [.str (c.vo.set i r)[j]] := fun j hj => by simp only [strE, List.getElem?_map, List.getElem?_eq_getElem hj]; rfl
 have hwl : (strE (c.vo.set i r)).length = (c.vo.set i r).length := z0d _
 have hw10 : (c.vo.set i r).length ≤ 10 := by rw [List.length_set]; omega
 rw [← z4U] at hgi hwl
 have cC := zhk ho K m hh hK { c with vo := c.vo.set i r } h2 hm ha hn
 have hne : ∀ j (hj : j < (c.vo.set i r).length), ¬ (c.vo.set i r)[j] = [] := fun j hj e => hn (e ▸ List.getElem_mem hj)
 rw [zjd]
 unfold ltL at cL
 clear hz hp hg hn h h2 hok hse2 e1 e2 hvl2
 unfold coE
 (try dsimp only)
 (try dsimp only at cC)
 rw [← z4U] at cC
 rw [ha] at *
 generalize flE (dkOf coordN (cloC ho K { c with vo := c.vo.set i r }).ts) = d2 at *
 generalize slE (cloC ho K { c with vo := c.vo.set i r }).s.se = SE2 at *
 generalize ntE (cloC ho K { c with vo := c.vo.set i r }).s.tr = TR2 at *
 generalize emV (2 ^ K) = EV at *
 generalize emD (2 ^ K) = ED at *
 generalize ltsE 4 ((c.s.se.length + 1 : Nat) : Int) (c.s.ty : Int) (2 ^ K) = LT at *
 generalize flE (dkOf coordN c.ts) = d0 at *
 generalize slE c.s.se = SE at *
 generalize ntE c.s.tr = TR at *
 generalize boE c.dn = DN at *
 generalize strE (z0g (z0j ho) 16) = PO at *
 generalize strE c.vo = VO at *
 generalize c.vo.set i r = vo at *
 refine z01 z0r 1 rfl Tryz.func13 rfl rfl rfl ?_
 conv => arg 6; whnf
 repeat ((try conv => whnf); first | (with_reducible first | refine z0c (fun Qs hN hE hR => ?_) | refine z0a ?_ | refine z03 (fun Qb kN kE kX kR => ?_) | refine z06 ?_ | refine z07 ?_ | refine z0b ?_ | refine z08 ?_ | refine z09 ?_ | (show W _ _ _ (.cond _ _ _) _ _; refine z05 rfl ?_) | (refine hN _ ?_; try clear hN hE hR Qs; (try (conv => arg 6; dsimp only [ovl, List.set, List.map, ren0]))) | ((first | refine hE _ _ ?_ | refine hR _ ?_); try clear hN hE hR Qs) | ((first | refine kN _ ?_ | refine kE _ ?_ | refine kX _ _ rfl ?_ | refine kR _ ?_); try clear kN kE kX kR Qb)) | (refine ccA ([]) (c1) ?_) | (refine Exists.intro c.vo.length (And.intro hvl ?_)) | (refine Exists.intro c.dn.length (And.intro hdl ?_)) | (refine Exists.intro c.s.se.length (And.intro hse ?_)) | (refine ccA ([]) (cL) ?_) | (refine ccA ([]) (cI) ?_) | (refine z0F z0 ?_) | (refine z0F zd ?_) | (refine Exists.intro _ (And.intro em.symm ?_)) | (refine z0k q2 ?_) | (refine z0k he ?_) | (refine z0k hy ?_) | (refine i_at gi ?_) | (refine i_lt fi ?_) | (refine Exists.intro _ (And.intro gi ?_)) | (refine z0k e0 ?_) | (refine Exists.intro vo.length (And.intro hwl ?_)) | (refine And.intro (by kernel_rfl) ?_) | (refine stpQ ?_))
 refine z11 Nat (fun j => ⟨[(4, .ptr 1 0 0), (5, .val nilV), (6, .ptr 2 0 0), (87, .ref 5), (88, .int .i64 ((vo.length : Nat) : Int)), (89, .int .i64 (j : Int))], [(1, some (.box [.int .i64 0, .int .i64 0, .bool false, .val nilV, .val nilV, .val nilV, .val nilV, .int .i64 0, .bool false, .val nilV, .val nilV])), (2, some (.box [.int .i64 (ho : Int), .int .i64 (K : Int), .bool true, .sl 3 d0, .sl 1 PO, .ref 3, .ref 4, .int .i64 (c.s.ty : Int), .bool true, .ref 5, .ref 6])), (3, some (.row 8 SE)), (4, some (.row 1 TR)), (5, some (.row 1 (VO.set i [.str r]))), (6, some (.row 1 DN))], 7⟩) (fun j => j ≤ vo.length) (fun j => vo.length - j) 0 (Nat.zero_le _) ?_ ?_
 ·(refine z02 (by rfl) ?_ ?_) <;> (repeat' (first | (exact eqA) | (refine And.intro ?_ ?_) | ((fail_if_success (with_reducible (show _ = _))); (show _ = _)))) <;> first | rfl | (simp; done)
 ·intro Q1 hQ1 j hj
  by_cases hlt : j < vo.length
  ·have f1 : (j : Int) < ((vo.length : Nat) : Int) := by omega
   have gj := hgi j hlt
   have f2 : j < (VO.set i [.str r]).length := by omega
   have f3 : ¬ vo[j] = [] := hne j hlt
   clear hne hgi cC
   generalize vo[j] = z at *
   repeat ((try conv => whnf); first | (with_reducible first | refine z0c (fun Qs hN hE hR => ?_) | refine z0a ?_ | refine z03 (fun Qb kN kE kX kR => ?_) | refine z06 ?_ | refine z07 ?_ | refine z0b ?_ | refine z08 ?_ | refine z09 ?_ | (show W _ _ _ (.cond _ _ _) _ _; refine z05 rfl ?_) | (refine hN _ ?_; try clear hN hE hR Qs; (try (conv => arg 6; dsimp only [ovl, List.set, List.map, ren0]))) | ((first | refine hE _ _ ?_ | refine hR _ ?_); try clear hN hE hR Qs) | ((first | refine kN _ ?_ | refine kE _ ?_ | refine kX _ _ rfl ?_ | refine kR _ ?_); try clear kN kE kX kR Qb)) | (refine z0k f1 ?_) | (refine i_lt f2 ?_) | (refine Exists.intro _ (And.intro gj ?_)) | (refine z0o f3 ?_) | (refine And.intro (by kernel_rfl) ?_) | (refine stpQ ?_))
   refine ⟨j + 1, hlt, by omega, ?_⟩
   (refine z02 (by rfl) ?_ ?_) <;> (repeat' (first | (exact eqA) | (refine And.intro ?_ ?_) | ((fail_if_success (with_reducible (show _ = _))); (show _ = _)))) <;> rfl
  ·obtain rfl : j = vo.length := by omega
   have f1 : ¬ ((vo.length : Nat) : Int) < ((vo.length : Nat) : Int) := by omega
   repeat ((try conv => whnf); first | (with_reducible first | refine z0c (fun Qs hN hE hR => ?_) | refine z0a ?_ | refine z03 (fun Qb kN kE kX kR => ?_) | refine z06 ?_ | refine z07 ?_ | refine z0b ?_ | refine z08 ?_ | refine z09 ?_ | (show W _ _ _ (.cond _ _ _) _ _; refine z05 rfl ?_) | (refine hN _ ?_; try clear hN hE hR Qs; (try (conv => arg 6; dsimp only [ovl, List.set, List.map, ren0]))) | ((first | refine hE _ _ ?_ | refine hR _ ?_); try clear hN hE hR Qs) | ((first | refine kN _ ?_ | refine kE _ ?_ | refine kX _ _ rfl ?_ | refine kR _ ?_); try clear kN kE kX kR Qb)) | (refine z0o f1 ?_) | (refine And.intro (by kernel_rfl) ?_) | (refine stpQ ?_))
   refine hQ1 _ _ ?_
   clear hQ1 Q1 hgi hne
   repeat ((try conv => whnf); first | (with_reducible first | refine z0c (fun Qs hN hE hR => ?_) | refine z0a ?_ | refine z03 (fun Qb kN kE kX kR => ?_) | refine z06 ?_ | refine z07 ?_ | refine z0b ?_ | refine z08 ?_ | refine z09 ?_ | (show W _ _ _ (.cond _ _ _) _ _; refine z05 rfl ?_) | (refine hN _ ?_; try clear hN hE hR Qs; (try (conv => arg 6; dsimp only [ovl, List.set, List.map, ren0]))) | ((first | refine hE _ _ ?_ | refine hR _ ?_); try clear hN hE hR Qs) | ((first | refine kN _ ?_ | refine kE _ ?_ | refine kX _ _ rfl ?_ | refine kR _ ?_); try clear kN kE kX kR Qb)) | (refine ccB ([2, 3, 4, 5, 6]) (cC) ?_) | (refine And.intro (by kernel_rfl) ?_) | (refine stpQ ?_))
   (refine z00 (by rfl) ?_ ?_ (by rfl)) <;> (repeat' (first | (exact eqA) | (refine And.intro ?_ ?_) | ((fail_if_success (with_reducible (show _ = _))); (show _ = _)))) <;> first | rfl | (simp; done)
end
end Go.Proofs.YtkjjacndfieeoaaGreatDoor
