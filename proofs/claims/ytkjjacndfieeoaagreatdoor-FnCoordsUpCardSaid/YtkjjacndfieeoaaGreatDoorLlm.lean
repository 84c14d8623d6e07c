/- Functions by content: a drawn coordinator; the walk of the law FnCloses. Functions by content: the law FnCloses. -/
import Derived.Test.YtkjjacndfieeoaaGreatDoorLox
import Derived.Test.YtkjjacndfieeoaaGreatDoorLrd
import Derived.Test.YtkjjacndfieeoaaGreatDoorCpo
import Derived.Test.YtkjjacndfieeoaaGreatDoorFa
import Derived.Test.YtkjjacndfieeoaaGreatDoorStc
import Derived.Test.YtkjjacndfieeoaaGreatDoorLab
namespace Go.Proofs.YtkjjacndfieeoaaGreatDoor
set_option maxRecDepth 100000
set_option maxHeartbeats 8000000
set_option linter.unusedVariables false
set_option linter.unusedSimpArgs false
set_option linter.unusedSectionVars false
open Go.RowKit Pl
def rtL (rt : Nat → Bs) (i : Nat) : List (List T) := strE ((List.range i).map rt)
theorem zhr (rt : Nat → Bs) (i : Nat) : rtL rt (i + 1) = rtL rt i ++ [[.str (rt i)]] := by simp [rtL, strE, List.range_succ]
theorem zbs (rt : Nat → Bs) (i : Nat) : (rtL rt i).length = i := by simp [rtL, strE]
theorem rtL_at (rt : Nat → Bs) (i : Nat) : (rtL rt i ++ [[.str (rt i)]])[i]? = some [.str (rt i)] := by
 rw [List.getElem?_append_right (by rw [zbs]; omega), zbs, Nat.sub_self]; rfl
section
attribute [local irreducible] z0m z0n z0q AnsP LeP W CvE
theorem z6O (c : Bs) (hc : (c.length : Int) ≤ 1048576) : ∃ (ho K : Nat) (x : Co), (ho ≤ 2 ∧ K ≤ 2 ∧ CoOk ho K 26 x) ∧ CT Tryz.prog 6 [] [.sl 1 (z0h c)] (.agg (coE (ho : Int) (K : Int) (z0g (z0j ho) 16) x)) [] := by
 obtain ⟨h0, c1⟩ := zcd c hc
 obtain ⟨ho, K, x, i', h', hx, _, c2⟩ := zdW c 0 h0 hc (by omega)
 refine ⟨ho, K, x, hx, ?_⟩
 unfold coE at *
 generalize flE (dkOf coordN x.ts) = d0 at *
 generalize slE x.s.se = SE at *
 generalize ntE x.s.tr = TR at *
 generalize strE (z0g (z0j ho) 16) = PO at *
 generalize strE x.vo = VO at *
 generalize boE x.dn = DN at *
 refine z01 z0r 1 rfl Tryz.func6 rfl rfl rfl ?_
 conv => arg 6; whnf
 repeat ((try conv => whnf); first | (with_reducible first | refine z0c (fun Qs hN hE hR => ?_) | refine z0a ?_ | refine z03 (fun Qb kN kE kX kR => ?_) | refine z06 ?_ | refine z07 ?_ | refine z0b ?_ | refine z08 ?_ | refine z09 ?_ | (show W _ _ _ (.cond _ _ _) _ _; refine z05 rfl ?_) | (refine hN _ ?_; try clear hN hE hR Qs; (try (conv => arg 6; dsimp only [ovl, List.set, List.map, ren0]))) | ((first | refine hE _ _ ?_ | refine hR _ ?_); try clear hN hE hR Qs) | ((first | refine kN _ ?_ | refine kE _ ?_ | refine kX _ _ rfl ?_ | refine kR _ ?_); try clear kN kE kX kR Qb)) | (refine ccA ([]) (c1) ?_) | (refine ccB ([_]) (c2) ?_) | (refine And.intro (by kernel_rfl) ?_) | (refine stpQ ?_))
 (refine z00 (by rfl) ?_ ?_ (by rfl)) <;> (repeat' (first | (exact eqA) | (refine And.intro ?_ ?_) | ((fail_if_success (with_reducible (show _ = _))); (show _ = _)))) <;> first | rfl | decide
theorem zga (c : Bs) (cb : CT Tryz.prog 5 [] [.sl 1 (z0h c)] (.bool false) []) (ho K : Int) (pk n : Nat) (hK : 0 ≤ K ∧ K ≤ 2) (e1 : IntKind.i64.wrap (1 * 2 ^ K.toNat) = (pk : Int)) (hpk : 1 ≤ pk ∧ pk ≤ 4) (PO F0 S0 R0 V0 D0 F1 S1 R1 V1 D1 : List (List T)) (y0 y1 : Int) (A0 A1 : Bool) (LG : List (List T)) (ps : List Nat) (hps : ps.length = 12)
 (cD : CT Tryz.prog 6 [] [.sl 1 (z0h c)] (.agg [.int .i64 ho, .int .i64 K, .bool true, .sl 3 F0, .sl 1 PO, .sl 8 S0, .sl 1 R0, .int .i64 y0, .bool A0, .sl 1 V0, .sl 1 D0]) [])
 (cP : CT Tryz.prog 7 [] [.sl 1 (z0h c)] (.ref 1) [.row 1 (ntE ps)])
 (cG : CT Tryz.prog 16 [] [.agg [.int .i64 ho, .int .i64 K, .bool true, .sl 3 F0, .sl 1 PO, .sl 8 S0, .sl 1 R0, .int .i64 y0, .bool A0, .sl 1 V0, .sl 1 D0]] (.tup [.agg [.int .i64 ho, .int .i64 K, .bool true, .sl 3 F1, .sl 1 PO, .sl 8 S1, .sl 1 R1, .int .i64 y1, .bool A1, .sl 1 V1, .sl 1 D1], .sl 6 LG]) []) (hS1 : S1.length = n) (hn : 4 ≤ n)
 (cB : CT Tryz.prog 10 [] [.agg [.int .i64 ho, .int .i64 K, .bool true, .sl 3 F1, .sl 1 PO, .sl 8 S1, .sl 1 R1, .int .i64 y1, .bool A1, .sl 1 V1, .sl 1 D1]] (.tup [.agg [.int .i64 ho, .int .i64 K, .bool true, .sl 3 F1, .sl 1 PO, .sl 8 S1, .sl 1 R1, .int .i64 y1, .bool A1, .sl 1 V1, .sl 1 D1], .sl 6 []]) [])
 (cS : CT Tryz.prog 15 [] [.agg [.int .i64 ho, .int .i64 K, .bool true, .sl 3 F1, .sl 1 PO, .sl 8 S1, .sl 1 R1, .int .i64 y1, .bool A1, .sl 1 V1, .sl 1 D1], .agg [.int .i64 ho, .int .i64 K, .bool true, .sl 3 F1, .sl 1 PO, .sl 8 S1, .sl 1 R1, .int .i64 y1, .bool A1, .sl 1 V1, .sl 1 D1]] (.bool true) []) : CT Tryz.prog 4 [] [.sl 1 (z0h c)] (.bool true) [] := by
 have f4 : (n : Int) ≥ 4 := by omega
 have eu : IntKind.u64.wrap K = K := by
  show K % 18446744073709551616 = _
  omega
 have z0 : (0 : Int) = 0 := rfl
 refine z01 z0r 1 rfl Tryz.func4 rfl rfl rfl ?_
 conv => arg 6; whnf
 repeat ((try conv => whnf); first | (with_reducible first | refine z0c (fun Qs hN hE hR => ?_) | refine z0a ?_ | refine z03 (fun Qb kN kE kX kR => ?_) | refine z06 ?_ | refine z07 ?_ | refine z0b ?_ | refine z08 ?_ | refine z09 ?_ | (show W _ _ _ (.cond _ _ _) _ _; refine z05 rfl ?_) | (refine hN _ ?_; try clear hN hE hR Qs; (try (conv => arg 6; dsimp only [ovl, List.set, List.map, ren0]))) | ((first | refine hE _ _ ?_ | refine hR _ ?_); try clear hN hE hR Qs) | ((first | refine kN _ ?_ | refine kE _ ?_ | refine kX _ _ rfl ?_ | refine kR _ ?_); try clear kN kE kX kR Qb)) | (refine ccA ([]) (cb) ?_) | (refine ccA ([]) (cD) ?_) | (refine ccA ([]) (cP) ?_) | (refine ccA ([]) (cG) ?_) | (refine Exists.intro n (And.intro hS1 ?_)) | (refine ccA ([]) (cB) ?_) | (refine And.intro (show _ ≤ (64 : Int) from by omega) ?_) | (refine Exists.intro _ (And.intro e1.symm ?_)) | (refine Exists.intro _ (And.intro eu.symm ?_)) | (refine z0k f4 ?_) | (refine z0k z0 ?_) | (refine ccA ([]) (cS) ?_) | (refine And.intro (by kernel_rfl) ?_) | (refine stpQ ?_))
 (refine z00 (by rfl) ?_ ?_ (by rfl)) <;> (repeat' (first | (exact eqA) | (refine And.intro ?_ ?_) | ((fail_if_success (with_reducible (show _ = _))); (show _ = _)))) <;> first | rfl | (simp; done)
theorem zgb (c : Bs) (cb : CT Tryz.prog 5 [] [.sl 1 (z0h c)] (.bool false) []) (ho K : Int) (pk n : Nat) (hK : 0 ≤ K ∧ K ≤ 2) (e1 : IntKind.i64.wrap (1 * 2 ^ K.toNat) = (pk : Int)) (hpk : 1 ≤ pk ∧ pk ≤ 4) (PO F0 S0 R0 V0 D0 F1 S1 R1 V1 D1 : List (List T)) (y0 y1 : Int) (A0 A1 : Bool) (LG : List (List T)) (ps : List Nat) (hps : ps.length = 12)
 (cD : CT Tryz.prog 6 [] [.sl 1 (z0h c)] (.agg [.int .i64 ho, .int .i64 K, .bool true, .sl 3 F0, .sl 1 PO, .sl 8 S0, .sl 1 R0, .int .i64 y0, .bool A0, .sl 1 V0, .sl 1 D0]) [])
 (cP : CT Tryz.prog 7 [] [.sl 1 (z0h c)] (.ref 1) [.row 1 (ntE ps)])
 (cG : CT Tryz.prog 16 [] [.agg [.int .i64 ho, .int .i64 K, .bool true, .sl 3 F0, .sl 1 PO, .sl 8 S0, .sl 1 R0, .int .i64 y0, .bool A0, .sl 1 V0, .sl 1 D0]] (.tup [.agg [.int .i64 ho, .int .i64 K, .bool true, .sl 3 F1, .sl 1 PO, .sl 8 S1, .sl 1 R1, .int .i64 y1, .bool A1, .sl 1 V1, .sl 1 D1], .sl 6 LG]) []) (hS1 : S1.length = n) (hn : n < 4) (F S R V D LT : Nat → List (List T)) (A : Nat → Bool) (y : Int) (LB : List (List T)) (dec rt : Nat → Bs) (root pr : Bs) (hd : Hd) (sg : Sg) (l1 l2 l3 l4 : Int) (r0 : Bs)
 (cB : CT Tryz.prog 10 [] [.agg [.int .i64 ho, .int .i64 K, .bool true, .sl 3 F1, .sl 1 PO, .sl 8 S1, .sl 1 R1, .int .i64 y1, .bool A1, .sl 1 V1, .sl 1 D1]] (.tup [.agg [.int .i64 ho, .int .i64 K, .bool true, .sl 3 (F 0), .sl 1 PO, .sl 8 (S 0), .sl 1 (R 0), .int .i64 y, .bool (A 0), .sl 1 (V 0), .sl 1 (D 0)], .sl 6 LB]) []) (hLB : LB.length = pk)
 (hS : ∀ i, i < pk → (S i).length = n) (hT0 : LT 0 = [])
 (cN : ∀ i (h : i < ps.length), CT Tryz.prog 17 [] [.int .i64 (ps[i] : Int)] (.str (dec i)) [])
 (cX : ∀ i, CT Tryz.prog 14 [] [.str (dec i), .int .i64 16] (.str (rt i)) [])
 (cR : ∀ i, i < pk → CT Tryz.prog 13 [] [.agg [.int .i64 ho, .int .i64 K, .bool true, .sl 3 (F i), .sl 1 PO, .sl 8 (S i), .sl 1 (R i), .int .i64 y, .bool (A i), .sl 1 (V i), .sl 1 (D i)], .agg [.int .i64 2, .int .i64 ((i + 1 : Nat) : Int), .int .i64 0, .int .i64 ((n + 1 : Nat) : Int), .int .i64 y, .str (rt i)]] (.tup [.agg [.int .i64 ho, .int .i64 K, .bool true, .sl 3 (F (i + 1)), .sl 1 PO, .sl 8 (S (i + 1)), .sl 1 (R (i + 1)), .int .i64 y, .bool (A (i + 1)), .sl 1 (V (i + 1)), .sl 1 (D (i + 1))], .sl 6 (LT (i + 1))]) [])
 (cC : CT Tryz.prog 18 [] [.sl 1 (rtL rt pk), .int .i64 16] (.tup [.str root, .bool true]) [])
 (hSl : (S pk).length = n + 1) (hSn : (S pk)[n]? = some ([.int .i64 (hd.ho : Int), .int .i64 (hd.ep : Int), .str root, .str hd.pr] ++ sgE sg))
 (hTl : (LT pk).length = pk) (hTn : (LT pk)[0]? = some [.int .i64 4, .int .i64 l1, .int .i64 l2, .int .i64 l3, .int .i64 l4, .str r0])
 (cV : CT Tryz.prog 20 [] [.sl 1 PO] (.str pr) [])
 (cS : CT Tryz.prog 19 [] [.str pr, .agg ([.int .i64 (hd.ho : Int), .int .i64 (hd.ep : Int), .str root, .str hd.pr] ++ sgE sg)] (.bool true) [])
 (cO : CT Tryz.prog 12 [] [.agg [.int .i64 ho, .int .i64 K, .bool true, .sl 3 (F pk), .sl 1 PO, .sl 8 (S pk), .sl 1 (R pk), .int .i64 y, .bool (A pk), .sl 1 (V pk), .sl 1 (D pk)]] (.bool true) []) (hA : A pk = false) : CT Tryz.prog 4 [] [.sl 1 (z0h c)] (.bool true) [] := by
 have f4 : ¬ (n : Int) ≥ 4 := by omega
 have eu : IntKind.u64.wrap K = K := by
  show K % 18446744073709551616 = _
  omega
 unfold sgE at hSn cS
 simp only [List.cons_append, List.nil_append] at hSn cS
 refine z01 z0r 1 rfl Tryz.func4 rfl rfl rfl ?_
 conv => arg 6; whnf
 repeat ((try conv => whnf); first | (with_reducible first | refine z0c (fun Qs hN hE hR => ?_) | refine z0a ?_ | refine z03 (fun Qb kN kE kX kR => ?_) | refine z06 ?_ | refine z07 ?_ | refine z0b ?_ | refine z08 ?_ | refine z09 ?_ | (show W _ _ _ (.cond _ _ _) _ _; refine z05 rfl ?_) | (refine hN _ ?_; try clear hN hE hR Qs; (try (conv => arg 6; dsimp only [ovl, List.set, List.map, ren0]))) | ((first | refine hE _ _ ?_ | refine hR _ ?_); try clear hN hE hR Qs) | ((first | refine kN _ ?_ | refine kE _ ?_ | refine kX _ _ rfl ?_ | refine kR _ ?_); try clear kN kE kX kR Qb)) | (refine ccA ([]) (cb) ?_) | (refine ccA ([]) (cD) ?_) | (refine ccA ([]) (cP) ?_) | (refine ccA ([]) (cG) ?_) | (refine Exists.intro n (And.intro hS1 ?_)) | (refine ccA ([]) (cB) ?_) | (refine And.intro (show _ ≤ (64 : Int) from by omega) ?_) | (refine Exists.intro _ (And.intro e1.symm ?_)) | (refine Exists.intro _ (And.intro eu.symm ?_)) | (refine z0o f4 ?_) | (refine And.intro (by kernel_rfl) ?_) | (refine stpQ ?_))
 refine z0i 0 ⟨[(5, .int .i64 (n : Int)), (6, .ptr 1 0 0), (7, .sl 6 LB), (8, .int .i64 (pk : Int)), (9, .ref 2), (10, .sl 6 (LT pk))], [(1, some (.box [.int .i64 ho, .int .i64 K, .bool true, .sl 3 (F pk), .sl 1 PO, .sl 8 (S pk), .sl 1 (R pk), .int .i64 y, .bool (A pk), .sl 1 (V pk), .sl 1 (D pk)])), (2, some (.row 1 (rtL rt pk)))], 3⟩ Nat (fun i => ⟨[(4, .ref 3), (5, .int .i64 (n : Int)), (6, .ptr 1 0 0), (7, .sl 6 LB), (8, .int .i64 (pk : Int)), (9, .ref 2), (10, .sl 6 (LT i)), (11, .int .i64 (i : Int))], [(1, some (.box [.int .i64 ho, .int .i64 K, .bool true, .sl 3 (F i), .sl 1 PO, .sl 8 (S i), .sl 1 (R i), .int .i64 y, .bool (A i), .sl 1 (V i), .sl 1 (D i)])), (2, some (.row 1 (rtL rt i))), (3, some (.row 1 (ntE ps)))], 4⟩) (fun i => i ≤ pk) (fun i => pk - i) 0 (Nat.zero_le _) ?_ ?_ ?_
 ·rw [hT0]
  (refine z02 (by rfl) ?_ ?_) <;> (repeat' (first | (exact eqA) | (refine And.intro ?_ ?_) | ((fail_if_success (with_reducible (show _ = _))); (show _ = _)))) <;> first | rfl | (simp [rtL, strE]; done)
 ·intro i hi
  by_cases hlt : i < pk
  ·have f1 : (i : Int) < (pk : Int) := by omega
   have hp : i < ps.length := by omega
   have gp : (ntE ps)[i]? = some [.int .i64 (ps[i] : Int)] := by simp [ntE, List.getElem?_eq_getElem hp]
   have fp : i < (ntE ps).length := by simp [ntE]; omega
   have c1 := cN i hp
   have c2 := cX i
   have c3 := cR i hlt
   have hs := hS i hlt
   have fs : (n : Int) = (n : Int) := rfl
   have hx := zhr rt i
   have hl := zbs rt i
   have ga := rtL_at rt i
   have fa : i < (rtL rt i ++ [[T.str (rt i)]]).length := by rw [List.length_append, hl]; simp
   clear cN cX cR hS hSn hTn hSl hTl hA
   generalize ps[i] = p at *
   generalize rtL rt i = RL at *
   generalize rt i = q at *
   repeat ((try conv => whnf); first | (with_reducible first | refine z0c (fun Qs hN hE hR => ?_) | refine z0a ?_ | refine z03 (fun Qb kN kE kX kR => ?_) | refine z06 ?_ | refine z07 ?_ | refine z0b ?_ | refine z08 ?_ | refine z09 ?_ | (show W _ _ _ (.cond _ _ _) _ _; refine z05 rfl ?_) | (refine hN _ ?_; try clear hN hE hR Qs; (try (conv => arg 6; dsimp only [ovl, List.set, List.map, ren0]))) | ((first | refine hE _ _ ?_ | refine hR _ ?_); try clear hN hE hR Qs) | ((first | refine kN _ ?_ | refine kE _ ?_ | refine kX _ _ rfl ?_ | refine kR _ ?_); try clear kN kE kX kR Qb)) | (refine z0k f1 ?_) | (refine i_lt fp ?_) | (refine Exists.intro _ (And.intro gp ?_)) | (refine ccA ([]) (c1) ?_) | (refine ccA ([]) (c2) ?_) | (refine Exists.intro n (And.intro hs ?_)) | (refine z0F fs ?_) | (refine i_lt fa ?_) | (refine Exists.intro _ (And.intro ga ?_)) | (refine ccA ([]) (c3) ?_) | (refine And.intro (by simp only [List.length_append, List.length_set, List.length_replicate, List.length_cons, List.length_nil, List.nil_append, z0d, List.length_map, List.length_range]; omega) ?_) | (refine And.intro (by kernel_rfl) ?_) | (refine stpQ ?_))
   refine ⟨i + 1, hlt, by omega, ?_⟩
   rw [hx]
   (refine z02 (by rfl) ?_ ?_) <;> (repeat' (first | (exact eqA) | (refine And.intro ?_ ?_) | ((fail_if_success (with_reducible (show _ = _))); (show _ = _)))) <;> first | rfl | (simp; done)
  ·obtain rfl : i = pk := by omega
   have f1 : ¬ ((i : Nat) : Int) < ((i : Nat) : Int) := by omega
   repeat ((try conv => whnf); first | (with_reducible first | refine z0c (fun Qs hN hE hR => ?_) | refine z0a ?_ | refine z03 (fun Qb kN kE kX kR => ?_) | refine z06 ?_ | refine z07 ?_ | refine z0b ?_ | refine z08 ?_ | refine z09 ?_ | (show W _ _ _ (.cond _ _ _) _ _; refine z05 rfl ?_) | (refine hN _ ?_; try clear hN hE hR Qs; (try (conv => arg 6; dsimp only [ovl, List.set, List.map, ren0]))) | ((first | refine hE _ _ ?_ | refine hR _ ?_); try clear hN hE hR Qs) | ((first | refine kN _ ?_ | refine kE _ ?_ | refine kX _ _ rfl ?_ | refine kR _ ?_); try clear kN kE kX kR Qb)) | (refine z0o f1 ?_) | (refine And.intro (by kernel_rfl) ?_) | (refine stpQ ?_))
   (refine z02 (by rfl) ?_ ?_) <;> (repeat' (first | (exact eqA) | (refine And.intro ?_ ?_) | ((fail_if_success (with_reducible (show _ = _))); (show _ = _)))) <;> first | rfl | (simp; done)
 ·have q1 : (pk : Int) = (pk : Int) := rfl
  have q2 : ((n + 1 : Nat) : Int) = ((n + 1 : Nat) : Int) := rfl
  have q4 : (4 : Int) = 4 := rfl
  have qr : root = root := rfl
  rw [hA] at cO ⊢
  repeat ((try conv => whnf); first | (with_reducible first | refine z0c (fun Qs hN hE hR => ?_) | refine z0a ?_ | refine z03 (fun Qb kN kE kX kR => ?_) | refine z06 ?_ | refine z07 ?_ | refine z0b ?_ | refine z08 ?_ | refine z09 ?_ | (show W _ _ _ (.cond _ _ _) _ _; refine z05 rfl ?_) | (refine hN _ ?_; try clear hN hE hR Qs; (try (conv => arg 6; dsimp only [ovl, List.set, List.map, ren0]))) | ((first | refine hE _ _ ?_ | refine hR _ ?_); try clear hN hE hR Qs) | ((first | refine kN _ ?_ | refine kE _ ?_ | refine kX _ _ rfl ?_ | refine kR _ ?_); try clear kN kE kX kR Qb)) | (refine ccA ([]) (cC) ?_) | (refine Exists.intro pk (And.intro hLB ?_)) | (refine Exists.intro (n + 1) (And.intro hSl ?_)) | (refine Exists.intro pk (And.intro hTl ?_)) | (refine i_at hSn ?_) | (refine i_at hTn ?_) | (refine z0k q1 ?_) | (refine z0k q2 ?_) | (refine z0k q4 ?_) | (refine z0k qr ?_) | (refine ccA ([]) (cV) ?_) | (refine ccA ([]) (cS) ?_) | (refine ccA ([]) (cO) ?_) | (refine And.intro (by kernel_rfl) ?_) | (refine stpQ ?_))
  (refine z00 (by rfl) ?_ ?_ (by rfl)) <;> (repeat' (first | (exact eqA) | (refine And.intro ?_ ?_) | ((fail_if_success (with_reducible (show _ = _))); (show _ = _)))) <;> first | rfl | (simp; done)
end
end Go.Proofs.YtkjjacndfieeoaaGreatDoor
namespace Go.Proofs.YtkjjacndfieeoaaGreatDoor
set_option linter.unusedVariables false
set_option linter.unusedSimpArgs false
set_option linter.unusedSectionVars false
open Go.RowKit Pl
theorem zcN (ho K : Nat) (po : List Bs) (c : Co) (rt : Nat → Bs) (i : Nat) : coE (ho : Int) (K : Int) po (coAt ho K c rt i) = [.int .i64 (ho : Int), .int .i64 (K : Int), .bool true, .sl 3 (flE (dkOf coordN (coAt ho K c rt i).ts)), .sl 1 (strE po), .sl 8 (slE (coAt ho K c rt i).s.se), .sl 1 (ntE (coAt ho K c rt i).s.tr), .int .i64 (c.s.ty : Int), .bool (coAt ho K c rt i).ask, .sl 1 (strE (coAt ho K c rt i).vo), .sl 1 (boE (coAt ho K c rt i).dn)] := by
 have h : (coAt ho K c rt i).s.ty = c.s.ty := by unfold coAt; split <;> rfl
 rw [coE, h]
theorem zbt {ho K m : Nat} {c : Co} (hh : ho ≤ 2) (hK : K ≤ 2) (h : CoOk ho K m c) (hm : m ≤ 100) : (logB c.ts).length ≤ 18000 ∧ (∀ x ∈ c.s.se, x.2.good) ∧ (c.s.se.length ≤ 10 ∧ c.s.tr.length ≤ 10 ∧ c.vo.length ≤ 10 ∧ c.dn.length ≤ 10) ∧ (dkOf coordN c.ts).length ≤ 1000 := by
 have hok := h.lg.ok hh
 have hsl := z1H hok
 obtain ⟨e1, e2⟩ := pow2 hK
 have h1 := h.vl
 have h2 := h.dl
 have hz : (logB c.ts).length ≤ 18000 := by have := h.lg.small hh hm; omega
 exact ⟨hz, fun x hx => (hok.sg x hx).2, ⟨by omega, by rw [hok.tl]; omega, by omega, by omega⟩, (z1k (n := coordN) (by decide) hz).1⟩
theorem zht {ho K m : Nat} {x : Co} (hh : ho ≤ 2) (hK : K ≤ 2) (h : CoOk ho K m x) (hm : m ≤ 100) : ∃ LG, CT Tryz.prog 16 [] [.agg (coE (ho : Int) (K : Int) (z0g (z0j ho) 16) x)] (.tup [.agg (coE (ho : Int) (K : Int) (z0g (z0j ho) 16) (givC K x)), .sl 6 LG]) [] := by
 obtain ⟨hz, hg, hl, _⟩ := zbt hh hK h hm
 by_cases ha : x.ask = true
 ·exact ⟨_, zbi (ho : Int) K hK (z0g (z0j ho) 16) x hz (by rw [z0H]; decide) hg hl ha⟩
 ·have e : givC K x = x := if_neg ha
  rw [e]
  exact ⟨_, zdM (ho : Int) K (z0g (z0j ho) 16) x hz (by rw [z0H]; decide) hg hl (by simpa using ha)⟩
theorem zhu (K : Nat) (x : Co) : (givC K x).ask = false := by
 unfold givC
 split
 ·rfl
 ·rename_i h; simpa using h
theorem z7X : ∀ (f n : Nat) (out : Bs), n < 10 ^ f → (decG n out).length ≤ out.length + f
 | 0, n, out, h => by
   obtain rfl : n = 0 := by simpa using h
   rw [decG, if_pos rfl]; omega
 | f + 1, n, out, h => by
   rw [decG]
   split
   ·omega
   ·have h2 := z7X f (n / 10) (UInt8.ofNat (48 + n % 10) :: out) (by rw [Nat.pow_succ] at h; omega)
    simp only [List.length_cons] at h2
    omega
theorem zdZ {n : Nat} (h : n < 10000) : (decM n).length ≤ 5 := by
 unfold decM
 split
 ·simp
 ·have := z7X 4 n [] (by omega)
  simp only [List.length_nil] at this
  omega
section
attribute [local irreducible] z0m z0n z0q AnsP LeP W CvE
set_option maxRecDepth 100000 in
set_option maxHeartbeats 8000000 in
theorem zbu (c : Bs) : CT Tryz.prog 4 [] [.sl 1 (z0h c)] (.bool true) [] := by
 have cb := c_big c
 by_cases hc : (c.length : Int) ≤ 1048576
 rotate_left
 ·rw [decide_eq_true (show (1048576 : Int) < (c.length : Int) by omega)] at cb
  refine z01 z0r 1 rfl Tryz.func4 rfl rfl rfl ?_
  conv => arg 6; whnf
  repeat ((try conv => whnf); first | (with_reducible first | refine z0c (fun Qs hN hE hR => ?_) | refine z0a ?_ | refine z03 (fun Qb kN kE kX kR => ?_) | refine z06 ?_ | refine z07 ?_ | refine z0b ?_ | refine z08 ?_ | refine z09 ?_ | (show W _ _ _ (.cond _ _ _) _ _; refine z05 rfl ?_) | (refine hN _ ?_; try clear hN hE hR Qs; (try (conv => arg 6; dsimp only [ovl, List.set, List.map, ren0]))) | ((first | refine hE _ _ ?_ | refine hR _ ?_); try clear hN hE hR Qs) | ((first | refine kN _ ?_ | refine kE _ ?_ | refine kX _ _ rfl ?_ | refine kR _ ?_); try clear kN kE kX kR Qb)) | (refine ccA ([]) (cb) ?_) | (refine And.intro (by kernel_rfl) ?_) | (refine stpQ ?_))
  (refine z00 (by rfl) ?_ ?_ (by rfl)) <;> (repeat' (first | (exact eqA) | (refine And.intro ?_ ?_) | ((fail_if_success (with_reducible (show _ = _))); (show _ = _))))
 rw [decide_eq_false (show ¬ (1048576 : Int) < (c.length : Int) by omega)] at cb
 obtain ⟨ho, K, x, ⟨hh, hK, h⟩, cD⟩ := z6O c hc
 obtain ⟨ps, ⟨hp1, hp2⟩, cP⟩ := z4E c hc
 obtain ⟨LG, cG⟩ := zht hh hK h (by omega)
 have ha0 := zhu K x
 have g := zfQ h
 generalize givC K x = x0 at *
 obtain ⟨hz, hg, hl, hf⟩ := zbt hh hK g (by omega)
 obtain ⟨e1, e2⟩ := pow2 hK
 have hpos : 1 ≤ 2 ^ K := Nat.two_pow_pos K
 have hpo : ((z0g (z0j ho) 16).length : Int) ≤ 100000 := by rw [z0H]; decide
 by_cases hn : 4 ≤ x0.s.se.length
 ·have cB := z6L (ho : Int) K (z0g (z0j ho) 16) x0 hz hpo hg hl ha0 hn
  have cS := zcF (ho : Int) (K : Int) (z0g (z0j ho) 16) x0 hf (by rw [z0H]; decide) (by omega) hg (by omega) (by omega) (by omega)
  exact zga c cb (ho : Int) (K : Int) (2 ^ K) x0.s.se.length (by omega) e1 ⟨hpos, e2⟩ _ _ _ _ _ _ _ _ _ _ _ _ _ _ _ _ ps hp2 cD cP cG (z0B _) hn cB cS
 ·have hty := g.lg.ty
  have hB : begC K x0 = ⟨x0.ts ++ [begB (x0.s.ty + 1)], { x0.s with ty := x0.s.ty + 1 }, true, emN K, x0.dn⟩ := if_pos ⟨ha0, by omega, by omega⟩
  have g1 := zfP g (by omega)
  have hsz : (logB (x0.ts ++ [begB (x0.s.ty + 1)])).length ≤ 18000 := by
   have q1 := z1V (ts := x0.ts) (t := begB (x0.s.ty + 1)) (by have := z1D (n := x0.s.ty + 1) (by omega); omega)
   have q2 := z1D (n := x0.s.ty + 1) (by omega)
   have q3 := g.lg.small hh (by omega)
   omega
  have cB := z59 (ho : Int) K hK (z0g (z0j ho) 16) x0 hz hpo hg hl ha0 (by omega) (by omega) hsz
  have b1 : (begC K x0).ask = true := by rw [hB]
  have b2 : (begC K x0).vo = emN K := by rw [hB]
  have b3 : (begC K x0).s.se = x0.s.se := by rw [hB]
  have b4 : (begC K x0).s.ty = x0.s.ty + 1 := by rw [hB]
  clear hB
  generalize begC K x0 = x1 at *
  have rtw : ∀ k, ((fun k => (z1c (decM (ps.getD k 0))).take 16) k).length = 16 := fun k => by
   show ((z1c (decM (ps.getD k 0))).take 16).length = 16
   rw [List.length_take, z1s]; rfl
  generalize hrt : (fun k => (z1c (decM (ps.getD k 0))).take 16) = rt at *
  have hrt2 : ∀ k, rt k = (z1c (decM (ps.getD k 0))).take 16 := fun k => by rw [← hrt]
  have ok : ∀ j, j < 4 → z04 2 ((j + 1 : Nat) : Int) 0 ((x1.s.se.length + 1 : Nat) : Int) (x1.s.ty : Int) (rt j) = true := fun j hj => by
   have q1 : inB ((x1.s.se.length + 1 : Nat) : Int) 1 4 = true := z0u.2 (by rw [b3]; omega)
   have q2 : inB (x1.s.ty : Int) 1 1000 = true := z0u.2 (by rw [b4]; omega)
   have q3 : inB ((j + 1 : Nat) : Int) 1 4 = true := z0u.2 (by omega)
   unfold z04
   rw [q1, q2, if_neg (by decide), if_pos rfl, q3, rtw j]
   rfl
  have gE := zbq g1 b1 rt rtw (i := 2 ^ K) (Nat.le_refl _)
  have hv := zcK (n := 2 ^ K) rtw
  obtain ⟨gh, gs, hr, hw⟩ := z4C hh hK gE b1 hv
  have gC := zfR hh gE (by omega) b1 hr
  have eE := zhn (ho := ho) (K := K) (c := x1) rt
  have cR : ∀ i, i < 2 ^ K → _ := fun i hi => zje hh hK g1 (by omega) b1 rt rtw hi ok
  have cO := zg7 hh hK gC (by omega)
  rw [← eE] at cO
  rw [zcN] at cO
  have cB' : CT Tryz.prog 10 [] [.agg (coE (ho : Int) (K : Int) (z0g (z0j ho) 16) x0)] (.tup [.agg (coE (ho : Int) (K : Int) (z0g (z0j ho) 16) (coAt ho K x1 rt 0)), .sl 6 (ltsE 1 ((x0.s.se.length + 1 : Nat) : Int) ((x0.s.ty + 1 : Nat) : Int) (2 ^ K))]) [] := by
   rw [coAt_0 rt b2]; exact cB
  rw [zcN] at cB'
  have hcN : z4w (voAt rt (2 ^ K) (2 ^ K)) = true := by
   unfold z4w
   rw [z8W (Nat.le_refl _)]
   rcases (show K = 0 ∨ K = 1 ∨ K = 2 by omega) with e | e | e <;> rw [e] <;> decide
  have cC := z3n (voAt rt (2 ^ K) (2 ^ K)) (by rw [z8W (Nat.le_refl _)]; omega) hw
  rw [zba, hcN] at cC
  have eV : voAt rt (2 ^ K) (2 ^ K) = (List.range (2 ^ K)).map rt := by simp [voAt]
  have cV := zb3 (z0g (z0j ho) 16) (z0H _ _) z2I
  have cS := zdY (zfo (z0g (z0j ho) 16)) (clHd ho { x1 with vo := voAt rt (2 ^ K) (2 ^ K) }, clSg ho { x1 with vo := voAt rt (2 ^ K) (2 ^ K) }) gh gs
  have hsb : slB (zfo (z0g (z0j ho) 16)) (clHd ho { x1 with vo := voAt rt (2 ^ K) (2 ^ K) }, clSg ho { x1 with vo := voAt rt (2 ^ K) (2 ^ K) }) = true := by
   unfold slB
   rw [Bool.and_eq_true, decide_eq_true_eq, decide_eq_true_eq]
   exact ⟨rfl, zft _ _ (by have := gh.2.2.1; omega)⟩
  rw [hsb] at cS
  have hse : (coAt ho K x1 rt (2 ^ K)).s.se = x1.s.se ++ [(clHd ho { x1 with vo := voAt rt (2 ^ K) (2 ^ K) }, clSg ho { x1 with vo := voAt rt (2 ^ K) (2 ^ K) })] := by rw [eE]; rfl
  have hlt : ltAt K x1 (2 ^ K) = ltsE 4 ((x1.s.se.length + 1 : Nat) : Int) (x1.s.ty : Int) (2 ^ K) := if_neg (by omega)
  refine zgb c cb (ho : Int) (K : Int) (2 ^ K) x0.s.se.length (by omega) e1 ⟨hpos, e2⟩ _ _ _ _ _ _ _ _ _ _ _ _ _ _ _ _ ps hp2 cD cP cG (z0B _) (by omega)
   (fun i => flE (dkOf coordN (coAt ho K x1 rt i).ts)) (fun i => slE (coAt ho K x1 rt i).s.se) (fun i => ntE (coAt ho K x1 rt i).s.tr) (fun i => strE (coAt ho K x1 rt i).vo) (fun i => boE (coAt ho K x1 rt i).dn) (fun i => if i = 0 then [] else ltAt K x1 i) (fun i => (coAt ho K x1 rt i).ask) (x1.s.ty : Int) _ (fun i => decM (ps.getD i 0)) rt _ _ (clHd ho { x1 with vo := voAt rt (2 ^ K) (2 ^ K) }) (clSg ho { x1 with vo := voAt rt (2 ^ K) (2 ^ K) }) 0 1 ((x1.s.se.length + 1 : Nat) : Int) (x1.s.ty : Int) []
   cB' (z6K _ _ _ _) (fun i hi => by show (slE (coAt ho K x1 rt i).s.se).length = _; rw [z0B, zjf rt hi, b3]) rfl
   (fun i hi => ?_) (fun i => ?_) (fun i hi => ?_) (by rw [rtL, ← eV]; exact cC) (by show (slE (coAt ho K x1 rt (2 ^ K)).s.se).length = _; rw [z0B, hse, List.length_append, b3]; rfl) ?_ ?_ ?_ cV cS cO ?_
  ·have e : ps.getD i 0 = ps[i] := by simp [List.getD, List.getElem?_eq_getElem hi]
   rw [← e]
   exact zdX _ (by rw [e]; have := hp1 _ (List.getElem_mem hi); omega)
  ·rw [hrt2]
   have hs := zdZ (n := ps.getD i 0) (by
    rcases Nat.lt_or_ge i ps.length with hi | hi
    ·rw [List.getD, List.getElem?_eq_getElem hi]; exact hp1 _ (List.getElem_mem hi)
    ·rw [List.getD, List.getElem?_eq_none hi]; decide)
   exact z3Z (decM (ps.getD i 0)) 16 (by omega) (by omega)
  ·have q := cR i hi
   rw [zcN, zcN, b3] at q
   show CT _ _ _ _ (.tup [_, .sl 6 (if i + 1 = 0 then [] else ltAt K x1 (i + 1))]) _
   rw [if_neg (by omega)]
   exact q
  ·show (slE (coAt ho K x1 rt (2 ^ K)).s.se)[x0.s.se.length]? = _
   rw [hse, ← b3, slE, List.getElem?_map, List.getElem?_append_right (Nat.le_refl _), Nat.sub_self]
   rfl
  ·show (if 2 ^ K = 0 then [] else ltAt K x1 (2 ^ K)).length = 2 ^ K
   rw [if_neg (by omega), hlt, z6K]
  ·show (if 2 ^ K = 0 then [] else ltAt K x1 (2 ^ K))[0]? = _
   rw [if_neg (by omega), hlt]
   obtain ⟨d, hd⟩ : ∃ d, 2 ^ K = d + 1 := ⟨2 ^ K - 1, by omega⟩
   rw [hd]
   simp only [ltsE, List.range_succ_eq_map, List.map_cons]
   rfl
  ·show (coAt ho K x1 rt (2 ^ K)).ask = false
   rw [eE]; rfl
end
end Go.Proofs.YtkjjacndfieeoaaGreatDoor
