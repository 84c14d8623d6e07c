/- Functions by content: rounds of a drawn life of a coordinator: letters are heard. Functions by content: a coordinator of the reference that is drawn. -/
import Derived.Test.YtkjjacndfieeoaaGreatDoorCdn
import Derived.Test.YtkjjacndfieeoaaGreatDoorFc
import Derived.Test.YtkjjacndfieeoaaGreatDoorCdw
namespace Go.Proofs.YtkjjacndfieeoaaGreatDoor
set_option maxRecDepth 100000
set_option maxHeartbeats 8000000
set_option linter.unusedVariables false
set_option linter.unusedSimpArgs false
set_option linter.unusedSectionVars false
open Go.RowKit Pl
def heaB (c : Co) (j : Nat) (r : Bs) : Bool := z04 2 ((j + 1 : Nat) : Int) 0 ((c.s.se.length + 1 : Nat) : Int) (c.s.ty : Int) r && (c.ask && decide (c.vo.getD j [] = []))
def heaV (ho K : Nat) (c : Co) (j : Nat) (r : Bs) : Co := if heaB c j r = true then votC ho K c j r else c
def heaD (c : Co) (j : Nat) : Co := if z04 5 ((j + 1 : Nat) : Int) 0 ((c.s.se.length : Nat) : Int) 1 [] = true then { c with dn := c.dn.set j true } else c
theorem zg9 {ho K m : Nat} {c : Co} {j : Nat} {r : Bs} (hr : r.length = 16) (h : CoOk ho K m c) (ha : c.ask = true) : CoOk ho K m { c with vo := c.vo.set j r } :=
 ⟨h.lg, by rw [List.length_set]; exact h.vl, h.dl, fun v hv => by
   rcases List.mem_or_eq_of_mem_set hv with hv | rfl
   ·exact h.vw v hv
   ·exact .inr hr, fun e => (by rw [ha] at e; cases e), h.ya⟩
theorem zji {ho K m : Nat} {c : Co} {j : Nat} {r : Bs} (hh : ho ≤ 2) (hK : K ≤ 2) (hr : r.length = 16) (h : CoOk ho K m c) (hm : m ≤ 100) : CoOk ho K m (heaV ho K c j r) := by
 unfold heaV
 split
 ·rename_i hb
  unfold heaB at hb
  simp only [Bool.and_eq_true] at hb
  have h2 := zg9 (j := j) hr h hb.2.1
  unfold votC
  split
  ·exact h2
  ·rename_i hn
   have h3 := z4C hh hK h2 hb.2.1 hn
   exact zfR hh h2 (by omega) hb.2.1 h3.2.2.1
 ·exact h
theorem zjj {ho K m : Nat} {c : Co} {j : Nat} (h : CoOk ho K m c) : CoOk ho K m (heaD c j) := by
 unfold heaD
 split
 ·exact ⟨h.lg, h.vl, by rw [List.length_set]; exact h.dl, h.vw, h.na, h.ya⟩
 ·exact h
section
attribute [local irreducible] z0m z0n z0q AnsP LeP W CvE
theorem rdVn (Q : Pst) (c : Bs) (ho K k i : Nat) (h : Int) (hh : ho ≤ 2) (hK : K ≤ 2) (hk : k ≤ 30) (x : Co) (g : CoOk ho K k x) {z i1 : Nat} {h1 : Int} (kx : CT Tryz.prog 24 [curE c i h] [.ptr 1 0 0, .int .i64 26] (.int .i64 ((z : Nat) : Int)) [curE c i1 h1]) (hx : k < z) {d i2 : Nat} {h2 : Int} (kd : CT Tryz.prog 24 [curE c i1 h1] [.ptr 1 0 0, .int .i64 8] (.int .i64 ((d : Nat) : Int)) [curE c i2 h2]) (hd : 3 ≤ d) {j i3 : Nat} {h3 : Int} (hj : j < 2 ^ K) (kj : CT Tryz.prog 24 [curE c i2 h2] [.ptr 1 0 0, .int .i64 ((2 ^ K : Nat) : Int)] (.int .i64 ((j : Nat) : Int)) [curE c i3 h3]) {r : Bs} {i4 : Nat} {h4 : Int} (hr : r.length = 16) (kr : CT Tryz.prog 59 [curE c i3 h3] [.ptr 1 0 0] (.str r) [curE c i4 h4]) {i5 : Nat} {h5 : Int} (ko : CT Tryz.prog 57 [curE c i4 h4] [.ptr 1 0 0, .int .i64 5] (.bool false) [curE c i5 h5]) (hb : heaB x j r = false)
 (hQ0 : ∀ S1, LeP 2 S1 ⟨[(0, .ptr 1 0 0), (2, .ptr 2 0 0), (3, .int .i64 ((K : Nat) : Int)), (4, .ptr 3 0 0), (5, .int .i64 ((k + 1 : Nat) : Int))], [(1, some (curE c i5 h5)), (2, some (.box [.int .i64 0, .int .i64 0, .bool false, .val nilV, .val nilV, .val nilV, .val nilV, .int .i64 0, .bool false, .val nilV, .val nilV])), (3, some (coB (ho : Int) (K : Int) (z0g (z0j ho) 16) (heaV ho K x j r).ts (heaV ho K x j r).s.ty (heaV ho K x j r).ask 4 5 6 7)), (4, some (.row 8 (slE (heaV ho K x j r).s.se))), (5, some (.row 1 (ntE (heaV ho K x j r).s.tr))), (6, some (.row 1 (strE (heaV ho K x j r).vo))), (7, some (.row 1 (boE (heaV ho K x j r).dn)))], 8⟩ → Q .normal S1) :
 W Tryz.prog ttA 2 z2N Q ⟨[(0, .ptr 1 0 0), (2, .ptr 2 0 0), (3, .int .i64 ((K : Nat) : Int)), (4, .ptr 3 0 0), (5, .int .i64 ((k : Nat) : Int))], [(1, some (curE c i h)), (2, some (.box [.int .i64 0, .int .i64 0, .bool false, .val nilV, .val nilV, .val nilV, .val nilV, .int .i64 0, .bool false, .val nilV, .val nilV])), (3, some (coB (ho : Int) (K : Int) (z0g (z0j ho) 16) (x).ts (x).s.ty (x).ask 4 5 6 7)), (4, some (.row 8 (slE (x).s.se))), (5, some (.row 1 (ntE (x).s.tr))), (6, some (.row 1 (strE (x).vo))), (7, some (.row 1 (boE (x).dn)))], 8⟩ := by
 have f1 : ((k : Nat) : Int) < ((z : Nat) : Int) := by omega
 have m0 : ¬ ((d : Nat) : Int) = 0 := by omega
 have m1 : ¬ ((d : Nat) : Int) = 1 := by omega
 have m2 : ¬ ((d : Nat) : Int) = 2 := by omega
 have hp := (pow2 hK).2
 have hvl := g.vl
 have hdl := g.dl
 have hsl := z1H (g.lg.ok hh)
 have hty := g.lg.ty
 have eSh : IntKind.i64.wrap (1 * 2 ^ ((K : Nat) : Int).toNat) = (((2 ^ K : Nat)) : Int) := (pow2 hK).1
 have eU : IntKind.u64.wrap ((K : Nat) : Int) = ((K : Nat) : Int) := by
  show ((K : Nat) : Int) % 18446744073709551616 = _
  omega
 have b0 : (0 : Int) ≤ ((K : Nat) : Int) := by omega
 have b1 : ((K : Nat) : Int) ≤ ((IntKind.i64.bits : Nat) : Int) := by show ((K : Nat) : Int) ≤ 64; omega
 have hse := z0B x.s.se
 have cB : CT Tryz.prog 60 (coH (ho : Int) (K : Int) (z0g (z0j ho) 16) x) [.ptr 1 0 0, .agg [.int .i64 2, .int .i64 ((j + 1 : Nat) : Int), .int .i64 0, .int .i64 ((x.s.se.length + 1 : Nat) : Int), .int .i64 (x.s.ty : Int), .str r]] (.sl 6 []) (coH (ho : Int) (K : Int) (z0g (z0j ho) 16) x) := by
  unfold heaB at hb
  cases ok : z04 2 ((j + 1 : Nat) : Int) 0 ((x.s.se.length + 1 : Nat) : Int) (x.s.ty : Int) r with
  | false => exact z4D (ho : Int) K (z0g (z0j ho) 16) x j _ _ r (by rw [hvl]; exact hj) (by rw [hdl, hvl]) (by omega) (by omega) 2 ok
  | true =>
    rw [ok, Bool.true_and] at hb
    cases ha : x.ask with
    | false => exact zad (ho : Int) K (z0g (z0j ho) 16) x j _ _ r (by rw [hvl]; exact hj) (by rw [hdl, hvl]) (by omega) (by omega) ok ha
    | true =>
      rw [ha, Bool.true_and] at hb
      exact zae (ho : Int) K (z0g (z0j ho) 16) x j _ _ r (by rw [hvl]; exact hj) (by rw [hdl, hvl]) (by omega) (by omega) ok ha rfl rfl (of_decide_eq_false hb)
 have eB : heaV ho K x j r = x := if_neg (by rw [hb]; decide)
 rw [eB] at hQ0
 clear g
 unfold coH coB at *
 conv => arg 4; whnf
 repeat ((try conv => whnf); first | (with_reducible first | refine z0c (fun Qs hN hE hR => ?_) | refine z0a ?_ | refine z03 (fun Qb kN kE kX kR => ?_) | refine z06 ?_ | refine z07 ?_ | refine z0b ?_ | refine z08 ?_ | refine z09 ?_ | (show W _ _ _ (.cond _ _ _) _ _; refine z05 rfl ?_) | (refine hN _ ?_; try clear hN hE hR Qs; (try (conv => arg 6; dsimp only [ovl, List.set, List.map, ren0]))) | ((first | refine hE _ _ ?_ | refine hR _ ?_); try clear hN hE hR Qs) | ((first | refine kN _ ?_ | refine kE _ ?_ | refine kX _ _ rfl ?_ | refine kR _ ?_); try clear kN kE kX kR Qb)) | (refine ccB ([1]) (kx) ?_) | (refine z0k f1 ?_) | (refine ccB ([1]) (kd) ?_) | (refine z0o m0 ?_) | (refine z0o m1 ?_) | (refine z0o m2 ?_) | (refine Exists.intro _ (And.intro eU.symm ?_)) | (refine And.intro b0 (And.intro b1 (Exists.intro _ (And.intro eSh.symm ?_)))) | (refine ccB ([1]) (kj) ?_) | (refine Exists.intro x.s.se.length (And.intro hse ?_)) | (refine ccB ([1]) (kr) ?_) | (refine ccB ([1]) (ko) ?_) | (refine ccB ([3, 4, 5, 6, 7]) (cB) ?_) | (refine And.intro (by kernel_rfl) ?_) | (refine stpQ ?_))
 refine hQ0 _ ?_
 (refine z02 (by rfl) ?_ ?_) <;> (repeat' (first | (exact eqA) | (refine And.intro ?_ ?_) | ((fail_if_success (with_reducible (show _ = _))); (show _ = _)))) <;> first | rfl | omega
theorem rdV1 (Q : Pst) (c : Bs) (ho K k i : Nat) (h : Int) (hh : ho ≤ 2) (hK : K ≤ 2) (hk : k ≤ 30) (x : Co) (g : CoOk ho K k x) {z i1 : Nat} {h1 : Int} (kx : CT Tryz.prog 24 [curE c i h] [.ptr 1 0 0, .int .i64 26] (.int .i64 ((z : Nat) : Int)) [curE c i1 h1]) (hx : k < z) {d i2 : Nat} {h2 : Int} (kd : CT Tryz.prog 24 [curE c i1 h1] [.ptr 1 0 0, .int .i64 8] (.int .i64 ((d : Nat) : Int)) [curE c i2 h2]) (hd : 3 ≤ d) {j i3 : Nat} {h3 : Int} (hj : j < 2 ^ K) (kj : CT Tryz.prog 24 [curE c i2 h2] [.ptr 1 0 0, .int .i64 ((2 ^ K : Nat) : Int)] (.int .i64 ((j : Nat) : Int)) [curE c i3 h3]) {r : Bs} {i4 : Nat} {h4 : Int} (hr : r.length = 16) (kr : CT Tryz.prog 59 [curE c i3 h3] [.ptr 1 0 0] (.str r) [curE c i4 h4]) {i5 : Nat} {h5 : Int} (ko : CT Tryz.prog 57 [curE c i4 h4] [.ptr 1 0 0, .int .i64 5] (.bool false) [curE c i5 h5]) (hb : heaB x j r = true) (hn : [] ∈ x.vo.set j r)
 (hQ0 : ∀ S1, LeP 2 S1 ⟨[(0, .ptr 1 0 0), (2, .ptr 2 0 0), (3, .int .i64 ((K : Nat) : Int)), (4, .ptr 3 0 0), (5, .int .i64 ((k + 1 : Nat) : Int))], [(1, some (curE c i5 h5)), (2, some (.box [.int .i64 0, .int .i64 0, .bool false, .val nilV, .val nilV, .val nilV, .val nilV, .int .i64 0, .bool false, .val nilV, .val nilV])), (3, some (coB (ho : Int) (K : Int) (z0g (z0j ho) 16) (heaV ho K x j r).ts (heaV ho K x j r).s.ty (heaV ho K x j r).ask 4 5 6 7)), (4, some (.row 8 (slE (heaV ho K x j r).s.se))), (5, some (.row 1 (ntE (heaV ho K x j r).s.tr))), (6, some (.row 1 (strE (heaV ho K x j r).vo))), (7, some (.row 1 (boE (heaV ho K x j r).dn)))], 8⟩ → Q .normal S1) :
 W Tryz.prog ttA 2 z2N Q ⟨[(0, .ptr 1 0 0), (2, .ptr 2 0 0), (3, .int .i64 ((K : Nat) : Int)), (4, .ptr 3 0 0), (5, .int .i64 ((k : Nat) : Int))], [(1, some (curE c i h)), (2, some (.box [.int .i64 0, .int .i64 0, .bool false, .val nilV, .val nilV, .val nilV, .val nilV, .int .i64 0, .bool false, .val nilV, .val nilV])), (3, some (coB (ho : Int) (K : Int) (z0g (z0j ho) 16) (x).ts (x).s.ty (x).ask 4 5 6 7)), (4, some (.row 8 (slE (x).s.se))), (5, some (.row 1 (ntE (x).s.tr))), (6, some (.row 1 (strE (x).vo))), (7, some (.row 1 (boE (x).dn)))], 8⟩ := by
 have f1 : ((k : Nat) : Int) < ((z : Nat) : Int) := by omega
 have m0 : ¬ ((d : Nat) : Int) = 0 := by omega
 have m1 : ¬ ((d : Nat) : Int) = 1 := by omega
 have m2 : ¬ ((d : Nat) : Int) = 2 := by omega
 have hp := (pow2 hK).2
 have hvl := g.vl
 have hdl := g.dl
 have hsl := z1H (g.lg.ok hh)
 have hty := g.lg.ty
 have eSh : IntKind.i64.wrap (1 * 2 ^ ((K : Nat) : Int).toNat) = (((2 ^ K : Nat)) : Int) := (pow2 hK).1
 have eU : IntKind.u64.wrap ((K : Nat) : Int) = ((K : Nat) : Int) := by
  show ((K : Nat) : Int) % 18446744073709551616 = _
  omega
 have b0 : (0 : Int) ≤ ((K : Nat) : Int) := by omega
 have b1 : ((K : Nat) : Int) ≤ ((IntKind.i64.bits : Nat) : Int) := by show ((K : Nat) : Int) ≤ 64; omega
 have hse := z0B x.s.se
 have hb2 := hb
 unfold heaB at hb2
 simp only [Bool.and_eq_true, decide_eq_true_eq] at hb2
 obtain ⟨ok, ha, hv⟩ := hb2
 have cB := zaf (ho : Int) K (z0g (z0j ho) 16) x j _ _ r (by rw [hvl]; exact hj) (by rw [hdl, hvl]) (by omega) (by omega) ok ha rfl rfl hv hn
 have eB : heaV ho K x j r = { x with vo := x.vo.set j r } := by
  unfold heaV votC
  rw [if_pos hb, if_pos hn]
 rw [eB] at hQ0
 simp only at hQ0
 clear g
 unfold coH coB at *
 conv => arg 4; whnf
 repeat ((try conv => whnf); first | (with_reducible first | refine z0c (fun Qs hN hE hR => ?_) | refine z0a ?_ | refine z03 (fun Qb kN kE kX kR => ?_) | refine z06 ?_ | refine z07 ?_ | refine z0b ?_ | refine z08 ?_ | refine z09 ?_ | (show W _ _ _ (.cond _ _ _) _ _; refine z05 rfl ?_) | (refine hN _ ?_; try clear hN hE hR Qs; (try (conv => arg 6; dsimp only [ovl, List.set, List.map, ren0]))) | ((first | refine hE _ _ ?_ | refine hR _ ?_); try clear hN hE hR Qs) | ((first | refine kN _ ?_ | refine kE _ ?_ | refine kX _ _ rfl ?_ | refine kR _ ?_); try clear kN kE kX kR Qb)) | (refine ccB ([1]) (kx) ?_) | (refine z0k f1 ?_) | (refine ccB ([1]) (kd) ?_) | (refine z0o m0 ?_) | (refine z0o m1 ?_) | (refine z0o m2 ?_) | (refine Exists.intro _ (And.intro eU.symm ?_)) | (refine And.intro b0 (And.intro b1 (Exists.intro _ (And.intro eSh.symm ?_)))) | (refine ccB ([1]) (kj) ?_) | (refine Exists.intro x.s.se.length (And.intro hse ?_)) | (refine ccB ([1]) (kr) ?_) | (refine ccB ([1]) (ko) ?_) | (refine ccB ([3, 4, 5, 6, 7]) (cB) ?_) | (refine And.intro (by kernel_rfl) ?_) | (refine stpQ ?_))
 refine hQ0 _ ?_
 (refine z02 (by rfl) ?_ ?_) <;> (repeat' (first | (exact eqA) | (refine And.intro ?_ ?_) | ((fail_if_success (with_reducible (show _ = _))); (show _ = _)))) <;> first | rfl | omega
theorem rdV2 (Q : Pst) (c : Bs) (ho K k i : Nat) (h : Int) (hh : ho ≤ 2) (hK : K ≤ 2) (hk : k ≤ 30) (x : Co) (g : CoOk ho K k x) {z i1 : Nat} {h1 : Int} (kx : CT Tryz.prog 24 [curE c i h] [.ptr 1 0 0, .int .i64 26] (.int .i64 ((z : Nat) : Int)) [curE c i1 h1]) (hx : k < z) {d i2 : Nat} {h2 : Int} (kd : CT Tryz.prog 24 [curE c i1 h1] [.ptr 1 0 0, .int .i64 8] (.int .i64 ((d : Nat) : Int)) [curE c i2 h2]) (hd : 3 ≤ d) {j i3 : Nat} {h3 : Int} (hj : j < 2 ^ K) (kj : CT Tryz.prog 24 [curE c i2 h2] [.ptr 1 0 0, .int .i64 ((2 ^ K : Nat) : Int)] (.int .i64 ((j : Nat) : Int)) [curE c i3 h3]) {r : Bs} {i4 : Nat} {h4 : Int} (hr : r.length = 16) (kr : CT Tryz.prog 59 [curE c i3 h3] [.ptr 1 0 0] (.str r) [curE c i4 h4]) {i5 : Nat} {h5 : Int} (ko : CT Tryz.prog 57 [curE c i4 h4] [.ptr 1 0 0, .int .i64 5] (.bool false) [curE c i5 h5]) (hb : heaB x j r = true) (hn : [] ∉ x.vo.set j r)
 (hQ0 : ∀ S1, LeP 2 S1 ⟨[(0, .ptr 1 0 0), (2, .ptr 2 0 0), (3, .int .i64 ((K : Nat) : Int)), (4, .ptr 3 0 0), (5, .int .i64 ((k + 1 : Nat) : Int))], [(1, some (curE c i5 h5)), (2, some (.box [.int .i64 0, .int .i64 0, .bool false, .val nilV, .val nilV, .val nilV, .val nilV, .int .i64 0, .bool false, .val nilV, .val nilV])), (3, some (coB (ho : Int) (K : Int) (z0g (z0j ho) 16) (heaV ho K x j r).ts (heaV ho K x j r).s.ty (heaV ho K x j r).ask 4 5 6 7)), (4, some (.row 8 (slE (heaV ho K x j r).s.se))), (5, some (.row 1 (ntE (heaV ho K x j r).s.tr))), (6, some (.row 1 (strE (heaV ho K x j r).vo))), (7, some (.row 1 (boE (heaV ho K x j r).dn)))], 8⟩ → Q .normal S1) :
 W Tryz.prog ttA 2 z2N Q ⟨[(0, .ptr 1 0 0), (2, .ptr 2 0 0), (3, .int .i64 ((K : Nat) : Int)), (4, .ptr 3 0 0), (5, .int .i64 ((k : Nat) : Int))], [(1, some (curE c i h)), (2, some (.box [.int .i64 0, .int .i64 0, .bool false, .val nilV, .val nilV, .val nilV, .val nilV, .int .i64 0, .bool false, .val nilV, .val nilV])), (3, some (coB (ho : Int) (K : Int) (z0g (z0j ho) 16) (x).ts (x).s.ty (x).ask 4 5 6 7)), (4, some (.row 8 (slE (x).s.se))), (5, some (.row 1 (ntE (x).s.tr))), (6, some (.row 1 (strE (x).vo))), (7, some (.row 1 (boE (x).dn)))], 8⟩ := by
 have f1 : ((k : Nat) : Int) < ((z : Nat) : Int) := by omega
 have m0 : ¬ ((d : Nat) : Int) = 0 := by omega
 have m1 : ¬ ((d : Nat) : Int) = 1 := by omega
 have m2 : ¬ ((d : Nat) : Int) = 2 := by omega
 have hp := (pow2 hK).2
 have hvl := g.vl
 have hdl := g.dl
 have hsl := z1H (g.lg.ok hh)
 have hty := g.lg.ty
 have eSh : IntKind.i64.wrap (1 * 2 ^ ((K : Nat) : Int).toNat) = (((2 ^ K : Nat)) : Int) := (pow2 hK).1
 have eU : IntKind.u64.wrap ((K : Nat) : Int) = ((K : Nat) : Int) := by
  show ((K : Nat) : Int) % 18446744073709551616 = _
  omega
 have b0 : (0 : Int) ≤ ((K : Nat) : Int) := by omega
 have b1 : ((K : Nat) : Int) ≤ ((IntKind.i64.bits : Nat) : Int) := by show ((K : Nat) : Int) ≤ 64; omega
 have hse := z0B x.s.se
 have hb2 := hb
 unfold heaB at hb2
 simp only [Bool.and_eq_true, decide_eq_true_eq] at hb2
 obtain ⟨ok, ha, hv⟩ := hb2
 have cB := zag ho K k hh hK x g (by omega) j _ _ r (by rw [hvl]; exact hj) ok ha rfl rfl hv (zg9 hr g ha) hn
 have eB : heaV ho K x j r = cloC ho K { x with vo := x.vo.set j r } := by
  unfold heaV votC
  rw [if_pos hb, if_neg hn]
 rw [eB] at hQ0
 have q1 : (cloC ho K { x with vo := x.vo.set j r }).s.ty = x.s.ty := rfl
 have q2 : (cloC ho K { x with vo := x.vo.set j r }).ask = false := rfl
 have q3 : (cloC ho K { x with vo := x.vo.set j r }).vo = emN K := rfl
 have q4 : (cloC ho K { x with vo := x.vo.set j r }).dn = emF K := rfl
 rw [q1, q2, q3, q4, z8R, zhg] at hQ0
 generalize (cloC ho K { x with vo := x.vo.set j r }).ts = ts2 at *
 generalize slE (cloC ho K { x with vo := x.vo.set j r }).s.se = SE2 at *
 generalize ntE (cloC ho K { x with vo := x.vo.set j r }).s.tr = TR2 at *
 clear q1 q2 q3 q4
 clear g
 unfold coH coB at *
 conv => arg 4; whnf
 repeat ((try conv => whnf); first | (with_reducible first | refine z0c (fun Qs hN hE hR => ?_) | refine z0a ?_ | refine z03 (fun Qb kN kE kX kR => ?_) | refine z06 ?_ | refine z07 ?_ | refine z0b ?_ | refine z08 ?_ | refine z09 ?_ | (show W _ _ _ (.cond _ _ _) _ _; refine z05 rfl ?_) | (refine hN _ ?_; try clear hN hE hR Qs; (try (conv => arg 6; dsimp only [ovl, List.set, List.map, ren0]))) | ((first | refine hE _ _ ?_ | refine hR _ ?_); try clear hN hE hR Qs) | ((first | refine kN _ ?_ | refine kE _ ?_ | refine kX _ _ rfl ?_ | refine kR _ ?_); try clear kN kE kX kR Qb)) | (refine ccB ([1]) (kx) ?_) | (refine z0k f1 ?_) | (refine ccB ([1]) (kd) ?_) | (refine z0o m0 ?_) | (refine z0o m1 ?_) | (refine z0o m2 ?_) | (refine Exists.intro _ (And.intro eU.symm ?_)) | (refine And.intro b0 (And.intro b1 (Exists.intro _ (And.intro eSh.symm ?_)))) | (refine ccB ([1]) (kj) ?_) | (refine Exists.intro x.s.se.length (And.intro hse ?_)) | (refine ccB ([1]) (kr) ?_) | (refine ccB ([1]) (ko) ?_) | (refine ccB ([3, 4, 5, 6, 7]) (cB) ?_) | (refine And.intro (by kernel_rfl) ?_) | (refine stpQ ?_))
 refine hQ0 _ ?_
 (refine z02 (by rfl) ?_ ?_) <;> (repeat' (first | (exact eqA) | (refine And.intro ?_ ?_) | ((fail_if_success (with_reducible (show _ = _))); (show _ = _)))) <;> first | rfl | omega
theorem rdD0 (Q : Pst) (c : Bs) (ho K k i : Nat) (h : Int) (hh : ho ≤ 2) (hK : K ≤ 2) (hk : k ≤ 30) (x : Co) (g : CoOk ho K k x) {z i1 : Nat} {h1 : Int} (kx : CT Tryz.prog 24 [curE c i h] [.ptr 1 0 0, .int .i64 26] (.int .i64 ((z : Nat) : Int)) [curE c i1 h1]) (hx : k < z) {d i2 : Nat} {h2 : Int} (kd : CT Tryz.prog 24 [curE c i1 h1] [.ptr 1 0 0, .int .i64 8] (.int .i64 ((d : Nat) : Int)) [curE c i2 h2]) (hd : 3 ≤ d) {j i3 : Nat} {h3 : Int} (hj : j < 2 ^ K) (kj : CT Tryz.prog 24 [curE c i2 h2] [.ptr 1 0 0, .int .i64 ((2 ^ K : Nat) : Int)] (.int .i64 ((j : Nat) : Int)) [curE c i3 h3]) {r : Bs} {i4 : Nat} {h4 : Int} (hr : r.length = 16) (kr : CT Tryz.prog 59 [curE c i3 h3] [.ptr 1 0 0] (.str r) [curE c i4 h4]) {i5 : Nat} {h5 : Int} (ko : CT Tryz.prog 57 [curE c i4 h4] [.ptr 1 0 0, .int .i64 5] (.bool true) [curE c i5 h5]) (hb : z04 5 ((j + 1 : Nat) : Int) 0 ((x.s.se.length : Nat) : Int) 1 [] = false)
 (hQ0 : ∀ S1, LeP 2 S1 ⟨[(0, .ptr 1 0 0), (2, .ptr 2 0 0), (3, .int .i64 ((K : Nat) : Int)), (4, .ptr 3 0 0), (5, .int .i64 ((k + 1 : Nat) : Int))], [(1, some (curE c i5 h5)), (2, some (.box [.int .i64 0, .int .i64 0, .bool false, .val nilV, .val nilV, .val nilV, .val nilV, .int .i64 0, .bool false, .val nilV, .val nilV])), (3, some (coB (ho : Int) (K : Int) (z0g (z0j ho) 16) (heaD x j).ts (heaD x j).s.ty (heaD x j).ask 4 5 6 7)), (4, some (.row 8 (slE (heaD x j).s.se))), (5, some (.row 1 (ntE (heaD x j).s.tr))), (6, some (.row 1 (strE (heaD x j).vo))), (7, some (.row 1 (boE (heaD x j).dn)))], 8⟩ → Q .normal S1) :
 W Tryz.prog ttA 2 z2N Q ⟨[(0, .ptr 1 0 0), (2, .ptr 2 0 0), (3, .int .i64 ((K : Nat) : Int)), (4, .ptr 3 0 0), (5, .int .i64 ((k : Nat) : Int))], [(1, some (curE c i h)), (2, some (.box [.int .i64 0, .int .i64 0, .bool false, .val nilV, .val nilV, .val nilV, .val nilV, .int .i64 0, .bool false, .val nilV, .val nilV])), (3, some (coB (ho : Int) (K : Int) (z0g (z0j ho) 16) (x).ts (x).s.ty (x).ask 4 5 6 7)), (4, some (.row 8 (slE (x).s.se))), (5, some (.row 1 (ntE (x).s.tr))), (6, some (.row 1 (strE (x).vo))), (7, some (.row 1 (boE (x).dn)))], 8⟩ := by
 have f1 : ((k : Nat) : Int) < ((z : Nat) : Int) := by omega
 have m0 : ¬ ((d : Nat) : Int) = 0 := by omega
 have m1 : ¬ ((d : Nat) : Int) = 1 := by omega
 have m2 : ¬ ((d : Nat) : Int) = 2 := by omega
 have hp := (pow2 hK).2
 have hvl := g.vl
 have hdl := g.dl
 have hsl := z1H (g.lg.ok hh)
 have hty := g.lg.ty
 have eSh : IntKind.i64.wrap (1 * 2 ^ ((K : Nat) : Int).toNat) = (((2 ^ K : Nat)) : Int) := (pow2 hK).1
 have eU : IntKind.u64.wrap ((K : Nat) : Int) = ((K : Nat) : Int) := by
  show ((K : Nat) : Int) % 18446744073709551616 = _
  omega
 have b0 : (0 : Int) ≤ ((K : Nat) : Int) := by omega
 have b1 : ((K : Nat) : Int) ≤ ((IntKind.i64.bits : Nat) : Int) := by show ((K : Nat) : Int) ≤ 64; omega
 have hse := z0B x.s.se
 have cB := z4D (ho : Int) K (z0g (z0j ho) 16) x j ((x.s.se.length : Nat) : Int) 1 [] (by rw [hvl]; exact hj) (by rw [hdl, hvl]) (by omega) (by omega) 5 hb
 have eB : heaD x j = x := if_neg (by rw [hb]; decide)
 rw [eB] at hQ0
 clear g
 unfold coH coB at *
 conv => arg 4; whnf
 repeat ((try conv => whnf); first | (with_reducible first | refine z0c (fun Qs hN hE hR => ?_) | refine z0a ?_ | refine z03 (fun Qb kN kE kX kR => ?_) | refine z06 ?_ | refine z07 ?_ | refine z0b ?_ | refine z08 ?_ | refine z09 ?_ | (show W _ _ _ (.cond _ _ _) _ _; refine z05 rfl ?_) | (refine hN _ ?_; try clear hN hE hR Qs; (try (conv => arg 6; dsimp only [ovl, List.set, List.map, ren0]))) | ((first | refine hE _ _ ?_ | refine hR _ ?_); try clear hN hE hR Qs) | ((first | refine kN _ ?_ | refine kE _ ?_ | refine kX _ _ rfl ?_ | refine kR _ ?_); try clear kN kE kX kR Qb)) | (refine ccB ([1]) (kx) ?_) | (refine z0k f1 ?_) | (refine ccB ([1]) (kd) ?_) | (refine z0o m0 ?_) | (refine z0o m1 ?_) | (refine z0o m2 ?_) | (refine Exists.intro _ (And.intro eU.symm ?_)) | (refine And.intro b0 (And.intro b1 (Exists.intro _ (And.intro eSh.symm ?_)))) | (refine ccB ([1]) (kj) ?_) | (refine Exists.intro x.s.se.length (And.intro hse ?_)) | (refine ccB ([1]) (kr) ?_) | (refine ccB ([1]) (ko) ?_) | (refine ccB ([3, 4, 5, 6, 7]) (cB) ?_) | (refine And.intro (by kernel_rfl) ?_) | (refine stpQ ?_))
 refine hQ0 _ ?_
 (refine z02 (by rfl) ?_ ?_) <;> (repeat' (first | (exact eqA) | (refine And.intro ?_ ?_) | ((fail_if_success (with_reducible (show _ = _))); (show _ = _)))) <;> first | rfl | omega
theorem rdD1 (Q : Pst) (c : Bs) (ho K k i : Nat) (h : Int) (hh : ho ≤ 2) (hK : K ≤ 2) (hk : k ≤ 30) (x : Co) (g : CoOk ho K k x) {z i1 : Nat} {h1 : Int} (kx : CT Tryz.prog 24 [curE c i h] [.ptr 1 0 0, .int .i64 26] (.int .i64 ((z : Nat) : Int)) [curE c i1 h1]) (hx : k < z) {d i2 : Nat} {h2 : Int} (kd : CT Tryz.prog 24 [curE c i1 h1] [.ptr 1 0 0, .int .i64 8] (.int .i64 ((d : Nat) : Int)) [curE c i2 h2]) (hd : 3 ≤ d) {j i3 : Nat} {h3 : Int} (hj : j < 2 ^ K) (kj : CT Tryz.prog 24 [curE c i2 h2] [.ptr 1 0 0, .int .i64 ((2 ^ K : Nat) : Int)] (.int .i64 ((j : Nat) : Int)) [curE c i3 h3]) {r : Bs} {i4 : Nat} {h4 : Int} (hr : r.length = 16) (kr : CT Tryz.prog 59 [curE c i3 h3] [.ptr 1 0 0] (.str r) [curE c i4 h4]) {i5 : Nat} {h5 : Int} (ko : CT Tryz.prog 57 [curE c i4 h4] [.ptr 1 0 0, .int .i64 5] (.bool true) [curE c i5 h5]) (hb : z04 5 ((j + 1 : Nat) : Int) 0 ((x.s.se.length : Nat) : Int) 1 [] = true)
 (hQ0 : ∀ S1, LeP 2 S1 ⟨[(0, .ptr 1 0 0), (2, .ptr 2 0 0), (3, .int .i64 ((K : Nat) : Int)), (4, .ptr 3 0 0), (5, .int .i64 ((k + 1 : Nat) : Int))], [(1, some (curE c i5 h5)), (2, some (.box [.int .i64 0, .int .i64 0, .bool false, .val nilV, .val nilV, .val nilV, .val nilV, .int .i64 0, .bool false, .val nilV, .val nilV])), (3, some (coB (ho : Int) (K : Int) (z0g (z0j ho) 16) (heaD x j).ts (heaD x j).s.ty (heaD x j).ask 4 5 6 7)), (4, some (.row 8 (slE (heaD x j).s.se))), (5, some (.row 1 (ntE (heaD x j).s.tr))), (6, some (.row 1 (strE (heaD x j).vo))), (7, some (.row 1 (boE (heaD x j).dn)))], 8⟩ → Q .normal S1) :
 W Tryz.prog ttA 2 z2N Q ⟨[(0, .ptr 1 0 0), (2, .ptr 2 0 0), (3, .int .i64 ((K : Nat) : Int)), (4, .ptr 3 0 0), (5, .int .i64 ((k : Nat) : Int))], [(1, some (curE c i h)), (2, some (.box [.int .i64 0, .int .i64 0, .bool false, .val nilV, .val nilV, .val nilV, .val nilV, .int .i64 0, .bool false, .val nilV, .val nilV])), (3, some (coB (ho : Int) (K : Int) (z0g (z0j ho) 16) (x).ts (x).s.ty (x).ask 4 5 6 7)), (4, some (.row 8 (slE (x).s.se))), (5, some (.row 1 (ntE (x).s.tr))), (6, some (.row 1 (strE (x).vo))), (7, some (.row 1 (boE (x).dn)))], 8⟩ := by
 have f1 : ((k : Nat) : Int) < ((z : Nat) : Int) := by omega
 have m0 : ¬ ((d : Nat) : Int) = 0 := by omega
 have m1 : ¬ ((d : Nat) : Int) = 1 := by omega
 have m2 : ¬ ((d : Nat) : Int) = 2 := by omega
 have hp := (pow2 hK).2
 have hvl := g.vl
 have hdl := g.dl
 have hsl := z1H (g.lg.ok hh)
 have hty := g.lg.ty
 have eSh : IntKind.i64.wrap (1 * 2 ^ ((K : Nat) : Int).toNat) = (((2 ^ K : Nat)) : Int) := (pow2 hK).1
 have eU : IntKind.u64.wrap ((K : Nat) : Int) = ((K : Nat) : Int) := by
  show ((K : Nat) : Int) % 18446744073709551616 = _
  omega
 have b0 : (0 : Int) ≤ ((K : Nat) : Int) := by omega
 have b1 : ((K : Nat) : Int) ≤ ((IntKind.i64.bits : Nat) : Int) := by show ((K : Nat) : Int) ≤ 64; omega
 have hse := z0B x.s.se
 have cB := zah (ho : Int) K (z0g (z0j ho) 16) x j ((x.s.se.length : Nat) : Int) 1 [] (by rw [hvl]; exact hj) (by rw [hdl, hvl]) (by omega) (by omega) hb rfl
 have eB : heaD x j = { x with dn := x.dn.set j true } := if_pos hb
 rw [eB] at hQ0
 simp only at hQ0
 clear g
 unfold coH coB at *
 conv => arg 4; whnf
 repeat ((try conv => whnf); first | (with_reducible first | refine z0c (fun Qs hN hE hR => ?_) | refine z0a ?_ | refine z03 (fun Qb kN kE kX kR => ?_) | refine z06 ?_ | refine z07 ?_ | refine z0b ?_ | refine z08 ?_ | refine z09 ?_ | (show W _ _ _ (.cond _ _ _) _ _; refine z05 rfl ?_) | (refine hN _ ?_; try clear hN hE hR Qs; (try (conv => arg 6; dsimp only [ovl, List.set, List.map, ren0]))) | ((first | refine hE _ _ ?_ | refine hR _ ?_); try clear hN hE hR Qs) | ((first | refine kN _ ?_ | refine kE _ ?_ | refine kX _ _ rfl ?_ | refine kR _ ?_); try clear kN kE kX kR Qb)) | (refine ccB ([1]) (kx) ?_) | (refine z0k f1 ?_) | (refine ccB ([1]) (kd) ?_) | (refine z0o m0 ?_) | (refine z0o m1 ?_) | (refine z0o m2 ?_) | (refine Exists.intro _ (And.intro eU.symm ?_)) | (refine And.intro b0 (And.intro b1 (Exists.intro _ (And.intro eSh.symm ?_)))) | (refine ccB ([1]) (kj) ?_) | (refine Exists.intro x.s.se.length (And.intro hse ?_)) | (refine ccB ([1]) (kr) ?_) | (refine ccB ([1]) (ko) ?_) | (refine ccB ([3, 4, 5, 6, 7]) (cB) ?_) | (refine And.intro (by kernel_rfl) ?_) | (refine stpQ ?_))
 refine hQ0 _ ?_
 (refine z02 (by rfl) ?_ ?_) <;> (repeat' (first | (exact eqA) | (refine And.intro ?_ ?_) | ((fail_if_success (with_reducible (show _ = _))); (show _ = _)))) <;> first | rfl | omega
end
end Go.Proofs.YtkjjacndfieeoaaGreatDoor
namespace Go.Proofs.YtkjjacndfieeoaaGreatDoor
set_option maxRecDepth 100000
set_option maxHeartbeats 8000000
set_option linter.unusedVariables false
set_option linter.unusedSimpArgs false
set_option linter.unusedSectionVars false
open Go.RowKit Pl
inductive CdD (c : Bs) (ho K : Nat) : Nat → Co → Nat → Int → Co → Nat → Int → Prop
 | beg {k x i h z i1 h1 d i2 h2} (kx : CT Tryz.prog 24 [curE c i h] [.ptr 1 0 0, .int .i64 26] (.int .i64 ((z : Nat) : Int)) [curE c i1 h1]) (hx : k < z ∧ z < 26) (kd : CT Tryz.prog 24 [curE c i1 h1] [.ptr 1 0 0, .int .i64 8] (.int .i64 ((d : Nat) : Int)) [curE c i2 h2]) (hd8 : d < 8) (hd : d = 0 ∨ d = 1) : CdD c ho K k x i h (begC K x) i2 h2
 | giv {k x i h z i1 h1 d i2 h2 i3 h3} (kx : CT Tryz.prog 24 [curE c i h] [.ptr 1 0 0, .int .i64 26] (.int .i64 ((z : Nat) : Int)) [curE c i1 h1]) (hx : k < z ∧ z < 26) (kd : CT Tryz.prog 24 [curE c i1 h1] [.ptr 1 0 0, .int .i64 8] (.int .i64 ((d : Nat) : Int)) [curE c i2 h2]) (hd8 : d < 8) (hd : d = 2) (kg : CT Tryz.prog 57 [curE c i2 h2] [.ptr 1 0 0, .int .i64 3] (.bool true) [curE c i3 h3]) : CdD c ho K k x i h (givC K x) i3 h3
 | gno {k x i h z i1 h1 d i2 h2 i3 h3} (kx : CT Tryz.prog 24 [curE c i h] [.ptr 1 0 0, .int .i64 26] (.int .i64 ((z : Nat) : Int)) [curE c i1 h1]) (hx : k < z ∧ z < 26) (kd : CT Tryz.prog 24 [curE c i1 h1] [.ptr 1 0 0, .int .i64 8] (.int .i64 ((d : Nat) : Int)) [curE c i2 h2]) (hd8 : d < 8) (hd : d = 2) (kg : CT Tryz.prog 57 [curE c i2 h2] [.ptr 1 0 0, .int .i64 3] (.bool false) [curE c i3 h3]) : CdD c ho K k x i h x i3 h3
 | vot {k x i h z i1 h1 d i2 h2 j i3 h3 r i4 h4 i5 h5} (kx : CT Tryz.prog 24 [curE c i h] [.ptr 1 0 0, .int .i64 26] (.int .i64 ((z : Nat) : Int)) [curE c i1 h1]) (hx : k < z ∧ z < 26) (kd : CT Tryz.prog 24 [curE c i1 h1] [.ptr 1 0 0, .int .i64 8] (.int .i64 ((d : Nat) : Int)) [curE c i2 h2]) (hd8 : d < 8) (hd : 3 ≤ d) (hj : j < 2 ^ K) (kj : CT Tryz.prog 24 [curE c i2 h2] [.ptr 1 0 0, .int .i64 ((2 ^ K : Nat) : Int)] (.int .i64 ((j : Nat) : Int)) [curE c i3 h3]) (hr : r.length = 16) (kr : CT Tryz.prog 59 [curE c i3 h3] [.ptr 1 0 0] (.str r) [curE c i4 h4]) (ko : CT Tryz.prog 57 [curE c i4 h4] [.ptr 1 0 0, .int .i64 5] (.bool false) [curE c i5 h5]) : CdD c ho K k x i h (heaV ho K x j r) i5 h5
 | don {k x i h z i1 h1 d i2 h2 j i3 h3 r i4 h4 i5 h5} (kx : CT Tryz.prog 24 [curE c i h] [.ptr 1 0 0, .int .i64 26] (.int .i64 ((z : Nat) : Int)) [curE c i1 h1]) (hx : k < z ∧ z < 26) (kd : CT Tryz.prog 24 [curE c i1 h1] [.ptr 1 0 0, .int .i64 8] (.int .i64 ((d : Nat) : Int)) [curE c i2 h2]) (hd8 : d < 8) (hd : 3 ≤ d) (hj : j < 2 ^ K) (kj : CT Tryz.prog 24 [curE c i2 h2] [.ptr 1 0 0, .int .i64 ((2 ^ K : Nat) : Int)] (.int .i64 ((j : Nat) : Int)) [curE c i3 h3]) (hr : r.length = 16) (kr : CT Tryz.prog 59 [curE c i3 h3] [.ptr 1 0 0] (.str r) [curE c i4 h4]) (ko : CT Tryz.prog 57 [curE c i4 h4] [.ptr 1 0 0, .int .i64 5] (.bool true) [curE c i5 h5]) : CdD c ho K k x i h (heaD x j) i5 h5
theorem zhq {c : Bs} {ho K k : Nat} {x : Co} {i : Nat} {h : Int} {x' : Co} {i' : Nat} {h' : Int} (hr : CdD c ho K k x i h x' i' h') : k < 26 := by
 cases hr <;> omega
theorem cd_ok {c : Bs} {ho K k : Nat} {x : Co} {i : Nat} {h : Int} {x' : Co} {i' : Nat} {h' : Int} (hh : ho ≤ 2) (hK : K ≤ 2) (hr : CdD c ho K k x i h x' i' h') (g : CoOk ho K k x) : CoOk ho K (k + 1) x' := by
 have hk := zhq hr
 cases hr with
 | beg kx hx kd hd8 hd => exact zfP g (by omega)
 | giv kx hx kd hd8 hd kg => exact (zfQ g).up (by omega)
 | gno kx hx kd hd8 hd kg => exact g.up (by omega)
 | vot kx hx kd hd8 hd hj kj hr kr ko => exact (zji hh hK hr g (by omega)).up (by omega)
 | don kx hx kd hd8 hd hj kj hr kr ko => exact (zjj g).up (by omega)
inductive CdR (c : Bs) (ho K : Nat) : Nat → Co → Nat → Int → Co → Nat → Int → Prop
 | stop {k x i h z i1 h1} (kx : CT Tryz.prog 24 [curE c i h] [.ptr 1 0 0, .int .i64 26] (.int .i64 ((z : Nat) : Int)) [curE c i1 h1]) (hx : ¬ k < z) : CdR c ho K k x i h x i1 h1
 | step {k x i h x' i' h' xF iF hF} (hr : CdD c ho K k x i h x' i' h') (hs : CdR c ho K (k + 1) x' i' h' xF iF hF) : CdR c ho K k x i h xF iF hF
theorem cd_all (c : Bs) (ho K : Nat) (hh : ho ≤ 2) (hK : K ≤ 2) (hc : (c.length : Int) ≤ 1048576) : ∀ (f k : Nat) (x : Co) (i : Nat) (h : Int), k + f = 26 → i ≤ c.length → CoOk ho K k x →
 ∃ xF iF hF, CdR c ho K k x i h xF iF hF ∧ CoOk ho K 26 xF ∧ iF ≤ c.length := by
 intro f
 induction f with
 | zero =>
   intro k x i h hf hi g
   obtain ⟨z, i1, h1, hz, hi1, kx⟩ := z3m c i h 26 hc hi (by decide)
   exact ⟨x, i1, h1, .stop kx (by omega), g.up (by omega), hi1⟩
 | succ f ih =>
   intro k x i h hf hi g
   obtain ⟨z, i1, h1, hz, hi1, kx⟩ := z3m c i h 26 hc hi (by decide)
   by_cases hkz : k < z
   ·obtain ⟨d, i2, h2, hd, hi2, kd⟩ := z3m c i1 h1 8 hc hi1 (by decide)
    have go : ∀ {x' i' h'}, CdD c ho K k x i h x' i' h' → i' ≤ c.length → ∃ xF iF hF, CdR c ho K k x i h xF iF hF ∧ CoOk ho K 26 xF ∧ iF ≤ c.length := fun {x' i' h'} hr hi' => by
     obtain ⟨xF, iF, hF, hs, gF, hiF⟩ := ih (k + 1) x' i' h' (by omega) hi' (cd_ok hh hK hr g)
     exact ⟨xF, iF, hF, .step hr hs, gF, hiF⟩
    by_cases h0 : d = 0 ∨ d = 1
    ·exact go (.beg kx ⟨hkz, hz⟩ kd hd h0) hi2
    ·by_cases h2' : d = 2
     ·obtain ⟨b, i3, h3, hi3, kg⟩ := zhY c i2 h2 3 hc hi2 (by decide)
      cases b with
      | true => exact go (.giv kx ⟨hkz, hz⟩ kd hd h2' kg) hi3
      | false => exact go (.gno kx ⟨hkz, hz⟩ kd hd h2' kg) hi3
     ·obtain ⟨j, i3, h3, hj, hi3, kj⟩ := z3m c i2 h2 (2 ^ K) hc hi2 (Nat.pow_pos (by decide))
      obtain ⟨r, i4, h4, hr, hi4, kr⟩ := za2 c i3 h3 hc hi3
      obtain ⟨b, i5, h5, hi5, ko⟩ := zhY c i4 h4 5 hc hi4 (by decide)
      cases b with
      | true => exact go (.don kx ⟨hkz, hz⟩ kd hd (by omega) hj kj hr kr ko) hi5
      | false => exact go (.vot kx ⟨hkz, hz⟩ kd hd (by omega) hj kj hr kr ko) hi5
   ·exact ⟨x, i1, h1, .stop kx hkz, g.up (by omega), hi1⟩
section
attribute [local irreducible] z0m z0n z0q AnsP LeP W CvE
theorem cd_w (Q : Pst) (c : Bs) (ho K : Nat) (hh : ho ≤ 2) (hK : K ≤ 2) {k : Nat} {x : Co} {i : Nat} {h : Int} {x' : Co} {i' : Nat} {h' : Int} (hr : CdD c ho K k x i h x' i' h') (g : CoOk ho K k x)
 (hQ0 : ∀ S1, LeP 2 S1 ⟨[(0, .ptr 1 0 0), (2, .ptr 2 0 0), (3, .int .i64 ((K : Nat) : Int)), (4, .ptr 3 0 0), (5, .int .i64 ((k + 1 : Nat) : Int))], [(1, some (curE c i' h')), (2, some (.box [.int .i64 0, .int .i64 0, .bool false, .val nilV, .val nilV, .val nilV, .val nilV, .int .i64 0, .bool false, .val nilV, .val nilV])), (3, some (coB (ho : Int) (K : Int) (z0g (z0j ho) 16) (x').ts (x').s.ty (x').ask 4 5 6 7)), (4, some (.row 8 (slE (x').s.se))), (5, some (.row 1 (ntE (x').s.tr))), (6, some (.row 1 (strE (x').vo))), (7, some (.row 1 (boE (x').dn)))], 8⟩ → Q .normal S1) :
 W Tryz.prog ttA 2 z2N Q ⟨[(0, .ptr 1 0 0), (2, .ptr 2 0 0), (3, .int .i64 ((K : Nat) : Int)), (4, .ptr 3 0 0), (5, .int .i64 ((k : Nat) : Int))], [(1, some (curE c i h)), (2, some (.box [.int .i64 0, .int .i64 0, .bool false, .val nilV, .val nilV, .val nilV, .val nilV, .int .i64 0, .bool false, .val nilV, .val nilV])), (3, some (coB (ho : Int) (K : Int) (z0g (z0j ho) 16) (x).ts (x).s.ty (x).ask 4 5 6 7)), (4, some (.row 8 (slE (x).s.se))), (5, some (.row 1 (ntE (x).s.tr))), (6, some (.row 1 (strE (x).vo))), (7, some (.row 1 (boE (x).dn)))], 8⟩ := by
 have hk := zhq hr
 cases hr with
 | beg kx hx kd hd8 hd =>
   by_cases hb : x.ask = false ∧ x.s.se.length < 4 ∧ x.s.ty ≤ 999
   ·rcases hd with hd | hd
    ·exact rdB0y Q c ho K k i h hh hK (by omega) x g kx hx.1 kd hd hb.1 hb.2.1 hb.2.2 hQ0
    ·exact rdB1y Q c ho K k i h hh hK (by omega) x g kx hx.1 kd hd hb.1 hb.2.1 hb.2.2 hQ0
   ·rcases hd with hd | hd
    ·exact rdB0n Q c ho K k i h hh hK (by omega) x g kx hx.1 kd hd hb hQ0
    ·exact rdB1n Q c ho K k i h hh hK (by omega) x g kx hx.1 kd hd hb hQ0
 | giv kx hx kd hd8 hd kg =>
   by_cases ha : x.ask = true
   ·exact rdG Q c ho K k i h hh hK (by omega) x g kx hx.1 kd hd kg ha hQ0
   ·exact rdGn Q c ho K k i h hh hK (by omega) x g kx hx.1 kd hd kg (by simpa using ha) hQ0
 | gno kx hx kd hd8 hd kg => exact rdGo Q c ho K k i h hh hK (by omega) x g kx hx.1 kd hd kg hQ0
 | vot kx hx kd hd8 hd hj kj hr kr ko =>
   rename_i j _ _ r _ _
   cases hb : heaB x j r with
   | false => exact rdVn Q c ho K k i h hh hK (by omega) x g kx hx.1 kd hd hj kj hr kr ko hb hQ0
   | true =>
     by_cases hn : [] ∈ x.vo.set j r
     ·exact rdV1 Q c ho K k i h hh hK (by omega) x g kx hx.1 kd hd hj kj hr kr ko hb hn hQ0
     ·exact rdV2 Q c ho K k i h hh hK (by omega) x g kx hx.1 kd hd hj kj hr kr ko hb hn hQ0
 | don kx hx kd hd8 hd hj kj hr kr ko =>
   rename_i j _ _ r _ _
   cases hb : z04 5 ((j + 1 : Nat) : Int) 0 ((x.s.se.length : Nat) : Int) 1 [] with
   | false => exact rdD0 Q c ho K k i h hh hK (by omega) x g kx hx.1 kd hd hj kj hr kr ko hb hQ0
   | true => exact rdD1 Q c ho K k i h hh hK (by omega) x g kx hx.1 kd hd hj kj hr kr ko hb hQ0
theorem zdW (c : Bs) (i : Nat) (h : Int) (hc : (c.length : Int) ≤ 1048576) (hi : i ≤ c.length) : ∃ (ho K : Nat) (x : Co) (i' : Nat) (h' : Int), (ho ≤ 2 ∧ K ≤ 2 ∧ CoOk ho K 26 x) ∧ i' ≤ c.length ∧
 CT Tryz.prog 21 [curE c i h] [.ptr 1 0 0] (.agg (coE (ho : Int) (K : Int) (z0g (z0j ho) 16) x)) [curE c i' h'] := by
 obtain ⟨K, i1, h1, hK3, hi1, k1⟩ := z3m c i h 3 hc hi (by decide)
 obtain ⟨ho, i2, h2, hh3, hi2, k2⟩ := z3m c i1 h1 3 hc hi1 (by decide)
 have hK : K ≤ 2 := by omega
 have hh : ho ≤ 2 := by omega
 obtain ⟨xF, iF, hF, hs, gF, hiF⟩ := cd_all c ho K hh hK hc 26 0 (co0 K) i2 h2 rfl hi2 (zi1 ho K)
 refine ⟨ho, K, xF, iF, hF, ⟨hh, hK, gF⟩, hiF, ?_⟩
 have c0 := zai ho hh K hK
 have g0 := zi1 ho K
 have z0 : dkOf coordN (co0 K).ts = [] := rfl
 have z1 : slE (co0 K).s.se = [] := rfl
 have z2 : ntE (co0 K).s.tr = [] := rfl
 have z3 : strE (co0 K).vo = emV (2 ^ K) := z8R K
 have z4 : boE (co0 K).dn = emD (2 ^ K) := zhg K
 unfold coE
 refine z01 z0r 2 rfl Tryz.func21 rfl rfl rfl ?_
 conv => arg 6; whnf
 repeat ((try conv => whnf); first | (with_reducible first | refine z0c (fun Qs hN hE hR => ?_) | refine z0a ?_ | refine z03 (fun Qb kN kE kX kR => ?_) | refine z06 ?_ | refine z07 ?_ | refine z0b ?_ | refine z08 ?_ | refine z09 ?_ | (show W _ _ _ (.cond _ _ _) _ _; refine z05 rfl ?_) | (refine hN _ ?_; try clear hN hE hR Qs; (try (conv => arg 6; dsimp only [ovl, List.set, List.map, ren0]))) | ((first | refine hE _ _ ?_ | refine hR _ ?_); try clear hN hE hR Qs) | ((first | refine kN _ ?_ | refine kE _ ?_ | refine kX _ _ rfl ?_ | refine kR _ ?_); try clear kN kE kX kR Qb)) | (refine ccB ([1]) (k1) ?_) | (refine ccB ([1]) (k2) ?_) | (refine ccA ([]) (c0) ?_) | (refine And.intro (by kernel_rfl) ?_) | (refine stpQ ?_))
 refine z11 (Nat × Co × Nat × Int) (fun x => ⟨[(0, .ptr 1 0 0), (2, .ptr 2 0 0), (3, .int .i64 ((K : Nat) : Int)), (4, .ptr 3 0 0), (5, .int .i64 ((x.1 : Nat) : Int))], [(1, some (curE c x.2.2.1 x.2.2.2)), (2, some (.box [.int .i64 0, .int .i64 0, .bool false, .val nilV, .val nilV, .val nilV, .val nilV, .int .i64 0, .bool false, .val nilV, .val nilV])), (3, some (coB (ho : Int) (K : Int) (z0g (z0j ho) 16) (x.2.1).ts (x.2.1).s.ty (x.2.1).ask 4 5 6 7)), (4, some (.row 8 (slE (x.2.1).s.se))), (5, some (.row 1 (ntE (x.2.1).s.tr))), (6, some (.row 1 (strE (x.2.1).vo))), (7, some (.row 1 (boE (x.2.1).dn)))], 8⟩) (fun x => CdR c ho K x.1 x.2.1 x.2.2.1 x.2.2.2 xF iF hF ∧ CoOk ho K x.1 x.2.1 ∧ x.1 ≤ 26) (fun x => 26 - x.1) (0, co0 K, i2, h2) ⟨hs, g0, Nat.zero_le _⟩ ?_ ?_
 ·dsimp only
  unfold coB
  rw [z0, z1, z2, z3, z4]
  (refine z02 (by rfl) ?_ ?_) <;> (repeat' (first | (exact eqA) | (refine And.intro ?_ ?_) | ((fail_if_success (with_reducible (show _ = _))); (show _ = _)))) <;> first | rfl | decide
 ·clear z0 z1 z2 z3 z4 g0
  intro Q1 hQ1 x hx
  obtain ⟨k, x, j, hj⟩ := x
  obtain ⟨hs, g, hk⟩ := hx
  dsimp only at hs g hk ⊢
  cases hs with
  | stop kx hx =>
    rename_i z
    have f1 : ¬ ((k : Nat) : Int) < ((z : Nat) : Int) := by omega
    unfold coB
    repeat ((try conv => whnf); first | (with_reducible first | refine z0c (fun Qs hN hE hR => ?_) | refine z0a ?_ | refine z03 (fun Qb kN kE kX kR => ?_) | refine z06 ?_ | refine z07 ?_ | refine z0b ?_ | refine z08 ?_ | refine z09 ?_ | (show W _ _ _ (.cond _ _ _) _ _; refine z05 rfl ?_) | (refine hN _ ?_; try clear hN hE hR Qs; (try (conv => arg 6; dsimp only [ovl, List.set, List.map, ren0]))) | ((first | refine hE _ _ ?_ | refine hR _ ?_); try clear hN hE hR Qs) | ((first | refine kN _ ?_ | refine kE _ ?_ | refine kX _ _ rfl ?_ | refine kR _ ?_); try clear kN kE kX kR Qb)) | (refine ccB ([1]) (kx) ?_) | (refine z0o f1 ?_) | (refine And.intro (by kernel_rfl) ?_) | (refine stpQ ?_))
    refine hQ1 _ _ ?_
    clear hQ1 Q1
    repeat ((try conv => whnf); first | (with_reducible first | refine z0c (fun Qs hN hE hR => ?_) | refine z0a ?_ | refine z03 (fun Qb kN kE kX kR => ?_) | refine z06 ?_ | refine z07 ?_ | refine z0b ?_ | refine z08 ?_ | refine z09 ?_ | (show W _ _ _ (.cond _ _ _) _ _; refine z05 rfl ?_) | (refine hN _ ?_; try clear hN hE hR Qs; (try (conv => arg 6; dsimp only [ovl, List.set, List.map, ren0]))) | ((first | refine hE _ _ ?_ | refine hR _ ?_); try clear hN hE hR Qs) | ((first | refine kN _ ?_ | refine kE _ ?_ | refine kX _ _ rfl ?_ | refine kR _ ?_); try clear kN kE kX kR Qb)) | (refine And.intro (by kernel_rfl) ?_) | (refine stpQ ?_))
    (refine z00 (by rfl) ?_ ?_ (by rfl)) <;> (repeat' (first | (exact eqA) | (refine And.intro ?_ ?_) | ((fail_if_success (with_reducible (show _ = _))); (show _ = _)))) <;> rfl
  | step hr hs' =>
    rename_i x' j' hj'
    exact cd_w _ c ho K hh hK hr g (fun S1 hS1 => ⟨(k + 1, x', j', hj'), ⟨hs', cd_ok hh hK hr g, zhq hr⟩, (by show 26 - (k + 1) < 26 - k; have := zhq hr; omega), hS1⟩)
end
end Go.Proofs.YtkjjacndfieeoaaGreatDoor
