/- Functions by content: the reference refuses to write complete proofs of other content. Functions by content: the reference reads complete proofs. Functions by content: the reference reads complete proofs out of any text. Functions by content: the reference reads complete proofs of good content, and refuses all other texts. -/
import Derived.Test.YtgmbkbggnlponaaGreatDoorRws
namespace Go.Proofs.YtgmbkbggnlponaaGreatDoor
set_option linter.unusedVariables false
set_option linter.unusedSimpArgs false
set_option linter.unusedSectionVars false
open Go.RowKit Pl
def slO : Option (Hd × Sg) → List T
 | some y => [.int .i64 (y.1.ho : Int), .int .i64 (y.1.ep : Int), .str y.1.ro, .str y.1.pr, .int .i64 (y.2.a : Int), .sl 1 (strE y.2.op), .sl 1 (strE y.2.sh), .sl 1 (strE y.2.si)]
 | none => [.int .i64 0, .int .i64 0, .str [], .str [], .int .i64 0, .sl 1 [], .sl 1 [], .sl 1 []]
theorem zaM (o : Option (Hd × Sg)) : ∃ (ho ep : Int) (ro pr : Bs) (a : Int) (op sh si : List (List T)), slO o = [.int .i64 ho, .int .i64 ep, .str ro, .str pr, .int .i64 a, .sl 1 op, .sl 1 sh, .sl 1 si] := by
 cases o with
 | none => exact ⟨_, _, _, _, _, _, _, _, rfl⟩
 | some y => exact ⟨_, _, _, _, _, _, _, _, rfl⟩
theorem zaN (o : Option Sg) : ∃ (a : Int) (op sh si : List (List T)), sgO o = [.int .i64 a, .sl 1 op, .sl 1 sh, .sl 1 si] := by
 cases o with
 | none => exact ⟨_, _, _, _, rfl⟩
 | some y => exact ⟨_, _, _, _, rfl⟩
def whC (B : List Lf) (S Tp : List Bs) (o : Option (Hd × Sg)) (st : List (Nat × Option Sg)) : List T := [.sl 2 (lvE B), .sl 1 (strE S), .sl 1 (strE Tp)] ++ slO o ++ [.sl 5 (stX st)]
theorem z9g (x : Wh) : whC x.B x.S x.T (some (x.hd, x.sg)) (stO x.st) = whE x := by
 unfold whC whE
 rw [zii]
 rfl
section
attribute [local irreducible] z0t z0u z0y AnsP LeP W CvE
theorem zgK (o : Option (Hd × Sg)) (h : ∀ y, o = some y → y.1.good ∧ y.2.good) : ∃ sb : Bs, sb.length ≤ 400 ∧ CT Tryz.prog 91 [] [.agg (slO o)] (.tup [.str sb, .bool o.isSome]) [] := by
 cases o with
 | none => exact ⟨[], by simp, z5H sa0 ⟨by simp [sa0], by simp [sa0], by simp [sa0]⟩ rfl⟩
 | some y =>
   obtain ⟨g, gs⟩ := h y rfl
   refine ⟨z12 y.1 y.2, ?_, z3X y.1 y.2 g gs⟩
   have a := z3g (h := y.1) gs
   have b := z0D (l := z0P y.1) (by have := z0N g; omega)
   have c := z0N g
   omega
set_option maxRecDepth 100000 in
set_option maxHeartbeats 16000000 in
theorem z58 (B : List Lf) (S Tp : List Bs) (o : Option (Hd × Sg)) (st : List (Nat × Option Sg)) (hsml : Sml B) (hl2 : (B.length : Int) ≤ 100) (hS : S.length ≤ 100) (hTp : Tp.length ≤ 10) (hst : st.length ≤ 10) (ho : ∀ y, o = some y → y.1.good ∧ y.2.good) (hs : ∀ y ∈ st, ∀ s, y.2 = some s → s.good) (hpl : z0J B S 16 = true → (z0l B S).length ≤ 20000)
 (hn : ¬ (z0J B S 16 = true ∧ o.isSome = true ∧ Tp.length ≤ 2 ∧ (∀ y ∈ Tp, y.length = 16) ∧ st.length ≤ 3 ∧ Allg st)) :
 CT Tryz.prog 34 [] [.agg (whC B S Tp o st)] (.tup [.str [], .bool false]) [] := by
 have cP := z3M B S 16 hsml hl2 (by omega)
 obtain ⟨SB, lsl, cS⟩ := zgK o ho
 have cW := z83 Tp 16 (by omega)
 have hTl := z0c Tp
 have hSl := zfz st
 have gst : ∀ i (h : i < st.length), ∀ s, st[i].2 = some s → s.good := fun i h => hs _ (List.getElem_mem h)
 have hg : ∀ i (h : i < st.length), (stX st)[i]? = some (T.int .i64 (st[i].1 : Int) :: sgO st[i].2) := fun i h => zig h
 have hw : Pl.wideB Tp 16 = true → ∀ y ∈ Tp, y.length = 16 := fun h y hy => by
  simp only [Pl.wideB, Bool.and_eq_true, List.all_eq_true, decide_eq_true_eq] at h
  have := h.1 y hy
  omega
 have hall : Pl.wideB Tp 16 = true → o.isSome = true → z0J B S 16 = true → Tp.length ≤ 2 → st.length ≤ 3 → ¬ Allg st := fun h1 h2 h3 h4 h5 h6 => hn ⟨h3, h2, h4, hw h1, h5, h6⟩
 clear hn hs
 obtain ⟨zh, ze, zr, zp, za, zo, zs, zi, hO⟩ := zaM o
 unfold whC
 rw [hO] at cS ⊢
 clear hO ho
 simp only [List.cons_append, List.nil_append]
 generalize o.isSome = two at cS hall
 generalize hPT : z0l B S = PT at cP hpl
 generalize z0J B S 16 = one at cP hall hpl
 have v1 := fun h => z2Z PT.length (by have := hpl h; omega)
 cases one with
 | false =>
   change CT _ _ _ _ (.tup [.str [], .bool false]) _ at cP
   refine z01 z0d 1 rfl Tryz.func34 rfl rfl rfl ?_
   conv => arg 6; whnf
   repeat ((try conv => whnf); first | (with_reducible first | refine z0b (fun Qs hN hE hR => ?_) | refine z09 ?_ | refine z03 (fun Qb kN kE kX kR => ?_) | refine z05 ?_ | refine z06 ?_ | refine z0a ?_ | refine z07 ?_ | refine z08 ?_ | (show W _ _ _ (.cond _ _ _) _ _; refine z04 rfl ?_) | (refine hN _ ?_; try clear hN hE hR Qs; (try (conv => arg 6; dsimp only [ovl, List.set, List.map, ren0]))) | ((first | refine hE _ _ ?_ | refine hR _ ?_); try clear hN hE hR Qs) | ((first | refine kN _ ?_ | refine kE _ ?_ | refine kX _ _ rfl ?_ | refine kR _ ?_); try clear kN kE kX kR Qb)) | (refine ccA ([]) (cP) ?_) | (refine ccA ([]) (cS) ?_) | (refine ccA ([]) (cW) ?_) | (refine And.intro (by kernel_rfl) ?_) | (refine stpQ ?_))
   (refine z00 (by rfl) ?_ ?_ (by rfl)) <;> (repeat' (first | (exact eqA) | (refine And.intro ?_ ?_) | ((fail_if_success (with_reducible (show _ = _))); (show _ = _))))
 | true =>
 change CT _ _ _ _ (.tup [.str PT, .bool true]) _ at cP
 have hpl2 := hpl rfl
 have v1' := v1 rfl
 cases two with
 | false =>
   refine z01 z0d 1 rfl Tryz.func34 rfl rfl rfl ?_
   conv => arg 6; whnf
   repeat ((try conv => whnf); first | (with_reducible first | refine z0b (fun Qs hN hE hR => ?_) | refine z09 ?_ | refine z03 (fun Qb kN kE kX kR => ?_) | refine z05 ?_ | refine z06 ?_ | refine z0a ?_ | refine z07 ?_ | refine z08 ?_ | (show W _ _ _ (.cond _ _ _) _ _; refine z04 rfl ?_) | (refine hN _ ?_; try clear hN hE hR Qs; (try (conv => arg 6; dsimp only [ovl, List.set, List.map, ren0]))) | ((first | refine hE _ _ ?_ | refine hR _ ?_); try clear hN hE hR Qs) | ((first | refine kN _ ?_ | refine kE _ ?_ | refine kX _ _ rfl ?_ | refine kR _ ?_); try clear kN kE kX kR Qb)) | (refine ccA ([]) (cP) ?_) | (refine ccA ([]) (cS) ?_) | (refine ccA ([]) (cW) ?_) | (refine And.intro (by kernel_rfl) ?_) | (refine stpQ ?_))
   (refine z00 (by rfl) ?_ ?_ (by rfl)) <;> (repeat' (first | (exact eqA) | (refine And.intro ?_ ?_) | ((fail_if_success (with_reducible (show _ = _))); (show _ = _))))
 | true =>
 by_cases f2 : (Tp.length : Int) > 2
 ·refine z01 z0d 1 rfl Tryz.func34 rfl rfl rfl ?_
  repeat ((try conv => whnf); first | (with_reducible first | refine z0b (fun Qs hN hE hR => ?_) | refine z09 ?_ | refine z03 (fun Qb kN kE kX kR => ?_) | refine z05 ?_ | refine z06 ?_ | refine z0a ?_ | refine z07 ?_ | refine z08 ?_ | (show W _ _ _ (.cond _ _ _) _ _; refine z04 rfl ?_) | (refine hN _ ?_; try clear hN hE hR Qs; (try (conv => arg 6; dsimp only [ovl, List.set, List.map, ren0]))) | ((first | refine hE _ _ ?_ | refine hR _ ?_); try clear hN hE hR Qs) | ((first | refine kN _ ?_ | refine kE _ ?_ | refine kX _ _ rfl ?_ | refine kR _ ?_); try clear kN kE kX kR Qb)) | (refine ccA ([]) (cP) ?_) | (refine ccA ([]) (cS) ?_) | (refine ccA ([]) (cW) ?_) | (refine Exists.intro Tp.length (And.intro hTl ?_)) | (refine z0i f2 ?_) | (refine And.intro (by kernel_rfl) ?_) | (refine stpQ ?_))
  (refine z00 (by rfl) ?_ ?_ (by rfl)) <;> (repeat' (first | (exact eqA) | (refine And.intro ?_ ?_) | ((fail_if_success (with_reducible (show _ = _))); (show _ = _))))
 generalize hwd : Pl.wideB Tp 16 = wd at cW hall hw
 cases wd with
 | false =>
   refine z01 z0d 1 rfl Tryz.func34 rfl rfl rfl ?_
   conv => arg 6; whnf
   repeat ((try conv => whnf); first | (with_reducible first | refine z0b (fun Qs hN hE hR => ?_) | refine z09 ?_ | refine z03 (fun Qb kN kE kX kR => ?_) | refine z05 ?_ | refine z06 ?_ | refine z0a ?_ | refine z07 ?_ | refine z08 ?_ | (show W _ _ _ (.cond _ _ _) _ _; refine z04 rfl ?_) | (refine hN _ ?_; try clear hN hE hR Qs; (try (conv => arg 6; dsimp only [ovl, List.set, List.map, ren0]))) | ((first | refine hE _ _ ?_ | refine hR _ ?_); try clear hN hE hR Qs) | ((first | refine kN _ ?_ | refine kE _ ?_ | refine kX _ _ rfl ?_ | refine kR _ ?_); try clear kN kE kX kR Qb)) | (refine ccA ([]) (cP) ?_) | (refine ccA ([]) (cS) ?_) | (refine ccA ([]) (cW) ?_) | (refine Exists.intro Tp.length (And.intro hTl ?_)) | (refine z0k f2 ?_) | (refine And.intro (by kernel_rfl) ?_) | (refine stpQ ?_))
   (refine z00 (by rfl) ?_ ?_ (by rfl)) <;> (repeat' (first | (exact eqA) | (refine And.intro ?_ ?_) | ((fail_if_success (with_reducible (show _ = _))); (show _ = _))))
 | true =>
 by_cases f3 : (st.length : Int) > 3
 ·refine z01 z0d 1 rfl Tryz.func34 rfl rfl rfl ?_
  repeat ((try conv => whnf); first | (with_reducible first | refine z0b (fun Qs hN hE hR => ?_) | refine z09 ?_ | refine z03 (fun Qb kN kE kX kR => ?_) | refine z05 ?_ | refine z06 ?_ | refine z0a ?_ | refine z07 ?_ | refine z08 ?_ | (show W _ _ _ (.cond _ _ _) _ _; refine z04 rfl ?_) | (refine hN _ ?_; try clear hN hE hR Qs; (try (conv => arg 6; dsimp only [ovl, List.set, List.map, ren0]))) | ((first | refine hE _ _ ?_ | refine hR _ ?_); try clear hN hE hR Qs) | ((first | refine kN _ ?_ | refine kE _ ?_ | refine kX _ _ rfl ?_ | refine kR _ ?_); try clear kN kE kX kR Qb)) | (refine ccA ([]) (cP) ?_) | (refine ccA ([]) (cS) ?_) | (refine ccA ([]) (cW) ?_) | (refine Exists.intro Tp.length (And.intro hTl ?_)) | (refine Exists.intro st.length (And.intro hSl ?_)) | (refine z0k f2 ?_) | (refine z0i f3 ?_) | (refine And.intro (by kernel_rfl) ?_) | (refine stpQ ?_))
  (refine z00 (by rfl) ?_ ?_ (by rfl)) <;> (repeat' (first | (exact eqA) | (refine And.intro ?_ ?_) | ((fail_if_success (with_reducible (show _ = _))); (show _ = _))))
 have hna := hall rfl rfl rfl (by omega) (by omega)
 have gtw := hw rfl
 have hT : ∀ i (h : i < Tp.length), Tp[i].length = 16 := fun i h => gtw _ (List.getElem_mem h)
 have htk : ∀ i, (Tp.take i).flatten.length ≤ 32 := fun i => by
  have := z1Q (l := Tp.take i) fun y hy => gtw y (List.mem_of_mem_take hy)
  rw [List.length_take] at this
  omega
 have hfl := z1Q gtw
 have v2 := z2Z Tp.length (by omega)
 have v3 := z2Z SB.length (by omega)
 have v4 := z2Z st.length (by omega)
 have k1 := z0O (n := PT.length) (by omega)
 have k2 := z0O (n := Tp.length) (by omega)
 have k3 := z0O (n := SB.length) (by omega)
 have k4 := z0O (n := st.length) (by omega)
 clear hall hw hwd hpl v1 hPT
 generalize z0g PT.length = V1 at *
 generalize z0g Tp.length = V2 at *
 generalize z0g SB.length = V3 at *
 generalize z0g st.length = V4 at *
 have hpre : ((V1 ++ PT) ++ V2).length ≤ 20020 := by simp only [List.length_append]; omega
 refine z01 z0d 1 rfl Tryz.func34 rfl rfl rfl ?_
 conv => arg 6; whnf
 repeat ((try conv => whnf); first | (with_reducible first | refine z0b (fun Qs hN hE hR => ?_) | refine z09 ?_ | refine z03 (fun Qb kN kE kX kR => ?_) | refine z05 ?_ | refine z06 ?_ | refine z0a ?_ | refine z07 ?_ | refine z08 ?_ | (show W _ _ _ (.cond _ _ _) _ _; refine z04 rfl ?_) | (refine hN _ ?_; try clear hN hE hR Qs; (try (conv => arg 6; dsimp only [ovl, List.set, List.map, ren0]))) | ((first | refine hE _ _ ?_ | refine hR _ ?_); try clear hN hE hR Qs) | ((first | refine kN _ ?_ | refine kE _ ?_ | refine kX _ _ rfl ?_ | refine kR _ ?_); try clear kN kE kX kR Qb)) | (refine ccA ([]) (cP) ?_) | (refine ccA ([]) (cS) ?_) | (refine ccA ([]) (cW) ?_) | (refine Exists.intro Tp.length (And.intro hTl ?_)) | (refine Exists.intro st.length (And.intro hSl ?_)) | (refine z0k f2 ?_) | (refine z0k f3 ?_) | (refine ccA ([]) (v1') ?_) | (refine ccA ([]) (v2) ?_) | (refine And.intro (by simp only [List.length_append]; omega) ?_) | (refine And.intro (by kernel_rfl) ?_) | (refine stpQ ?_))
 refine z0h 0 ⟨[(1, .ptr 1 0 0), (6, .str SB), (8, .str (((V1 ++ PT) ++ V2) ++ Tp.flatten))], [(1, some (.box [.sl 2 (lvE B), .sl 1 (strE S), .sl 1 (strE Tp), .int .i64 zh, .int .i64 ze, .str zr, .str zp, .int .i64 za, .sl 1 zo, .sl 1 zs, .sl 1 zi, .sl 5 (stX st)]))], 2⟩ Nat (fun i => ⟨[(1, .ptr 1 0 0), (6, .str SB), (8, .str (((V1 ++ PT) ++ V2) ++ (Tp.take i).flatten)), (9, .int .i64 (i : Int))], [(1, some (.box [.sl 2 (lvE B), .sl 1 (strE S), .sl 1 (strE Tp), .int .i64 zh, .int .i64 ze, .str zr, .str zp, .int .i64 za, .sl 1 zo, .sl 1 zs, .sl 1 zi, .sl 5 (stX st)]))], 2⟩) (fun i => i ≤ Tp.length) (fun i => Tp.length - i) 0 (Nat.zero_le _) ?_ ?_ ?_
 ·(refine z02 (by rfl) ?_ ?_) <;> (repeat' (first | (exact eqA) | (refine And.intro ?_ ?_) | ((fail_if_success (with_reducible (show _ = _))); (show _ = _)))) <;> first | rfl | (simp; done)
 ·intro i hi
  by_cases hlt : i < Tp.length
  ·have f1 : (i : Int) < ((Tp.length : Nat) : Int) := by omega
   have gi : (strE Tp)[i]? = some [.str Tp[i]] := by simp [strE, List.getElem?_eq_getElem hlt]
   have h1 := hT i hlt
   have h2 := htk i
   have hnx : (Tp.take (i + 1)).flatten = (Tp.take i).flatten ++ Tp[i] := by rw [List.take_succ_eq_append_getElem hlt, List.flatten_append, List.flatten_cons, List.flatten_nil, List.append_nil]
   generalize (Tp.take i).flatten = u at *
   generalize Tp[i] = y at *
   generalize (V1 ++ PT) ++ V2 = pre at *
   repeat ((try conv => whnf); first | (with_reducible first | refine z0b (fun Qs hN hE hR => ?_) | refine z09 ?_ | refine z03 (fun Qb kN kE kX kR => ?_) | refine z05 ?_ | refine z06 ?_ | refine z0a ?_ | refine z07 ?_ | refine z08 ?_ | (show W _ _ _ (.cond _ _ _) _ _; refine z04 rfl ?_) | (refine hN _ ?_; try clear hN hE hR Qs; (try (conv => arg 6; dsimp only [ovl, List.set, List.map, ren0]))) | ((first | refine hE _ _ ?_ | refine hR _ ?_); try clear hN hE hR Qs) | ((first | refine kN _ ?_ | refine kE _ ?_ | refine kX _ _ rfl ?_ | refine kR _ ?_); try clear kN kE kX kR Qb)) | (refine Exists.intro Tp.length (And.intro hTl ?_)) | (refine z0i f1 ?_) | (refine i_at gi ?_) | (refine And.intro (by simp only [List.length_append]; omega) ?_) | (refine And.intro (by kernel_rfl) ?_) | (refine stpQ ?_))
   refine ⟨i + 1, hlt, by omega, ?_⟩
   rw [hnx]
   (refine z02 (by rfl) ?_ ?_) <;> (repeat' (first | (exact eqA) | (refine And.intro ?_ ?_) | ((fail_if_success (with_reducible (show _ = _))); (show _ = _)))) <;> first | rfl | (rw [List.append_assoc])
  ·have hie : i = Tp.length := by omega
   subst hie
   have f1 : ¬ ((Tp.length : Nat) : Int) < ((Tp.length : Nat) : Int) := by omega
   repeat ((try conv => whnf); first | (with_reducible first | refine z0b (fun Qs hN hE hR => ?_) | refine z09 ?_ | refine z03 (fun Qb kN kE kX kR => ?_) | refine z05 ?_ | refine z06 ?_ | refine z0a ?_ | refine z07 ?_ | refine z08 ?_ | (show W _ _ _ (.cond _ _ _) _ _; refine z04 rfl ?_) | (refine hN _ ?_; try clear hN hE hR Qs; (try (conv => arg 6; dsimp only [ovl, List.set, List.map, ren0]))) | ((first | refine hE _ _ ?_ | refine hR _ ?_); try clear hN hE hR Qs) | ((first | refine kN _ ?_ | refine kE _ ?_ | refine kX _ _ rfl ?_ | refine kR _ ?_); try clear kN kE kX kR Qb)) | (refine Exists.intro Tp.length (And.intro hTl ?_)) | (refine z0k f1 ?_) | (refine stpQ ?_))
   rw [List.take_length]
   (refine z02 (by rfl) ?_ ?_) <;> (repeat' (first | (exact eqA) | (refine And.intro ?_ ?_) | ((fail_if_success (with_reducible (show _ = _))); (show _ = _)))) <;> rfl
 ·have hTpl : Tp.flatten.length ≤ 32 := by omega
  generalize (V1 ++ PT) ++ V2 = pre at *
  generalize Tp.flatten = TF at *
  repeat ((try conv => whnf); first | (with_reducible first | refine z0b (fun Qs hN hE hR => ?_) | refine z09 ?_ | refine z03 (fun Qb kN kE kX kR => ?_) | refine z05 ?_ | refine z06 ?_ | refine z0a ?_ | refine z07 ?_ | refine z08 ?_ | (show W _ _ _ (.cond _ _ _) _ _; refine z04 rfl ?_) | (refine hN _ ?_; try clear hN hE hR Qs; (try (conv => arg 6; dsimp only [ovl, List.set, List.map, ren0]))) | ((first | refine hE _ _ ?_ | refine hR _ ?_); try clear hN hE hR Qs) | ((first | refine kN _ ?_ | refine kE _ ?_ | refine kX _ _ rfl ?_ | refine kR _ ?_); try clear kN kE kX kR Qb)) | (refine Exists.intro st.length (And.intro hSl ?_)) | (refine ccA ([]) (v3) ?_) | (refine ccA ([]) (v4) ?_) | (refine And.intro (by simp only [List.length_append]; omega) ?_) | (refine And.intro (by kernel_rfl) ?_) | (refine stpQ ?_))
  have hpre2 : (pre ++ TF ++ V3 ++ SB ++ V4).length ≤ 20500 := by simp only [List.length_append]; omega
  refine z6x (Nat × Bs) (fun x => ⟨[(1, .ptr 1 0 0), (8, .str x.2), (10, .int .i64 (x.1 : Int))], [(1, some (.box [.sl 2 (lvE B), .sl 1 (strE S), .sl 1 (strE Tp), .int .i64 zh, .int .i64 ze, .str zr, .str zp, .int .i64 za, .sl 1 zo, .sl 1 zs, .sl 1 zi, .sl 5 (stX st)]))], 2⟩) (fun x => x.1 ≤ st.length ∧ x.2.length ≤ 20500 + 400 * x.1 ∧ ∀ i (h : i < st.length), i < x.1 → st[i].1 ≤ 2 ∧ ∃ s, st[i].2 = some s ∧ s.good) (fun x => st.length - x.1) (0, pre ++ TF ++ V3 ++ SB ++ V4) ⟨Nat.zero_le _, hpre2, fun i _ h => absurd h (by simp)⟩ ?_ ?_
  ·(refine z02 (by rfl) ?_ ?_) <;> (repeat' (first | (exact eqA) | (refine And.intro ?_ ?_) | ((fail_if_success (with_reducible (show _ = _))); (show _ = _)))) <;> first | rfl | (simp; done)
  ·intro Q1 hQ1 x hx
   obtain ⟨i, u⟩ := x
   obtain ⟨hi, hu, hgd⟩ := hx
   dsimp only at hi hu hgd ⊢
   by_cases hlt : i < st.length
   ·have f1 : (i : Int) < ((st.length : Nat) : Int) := by omega
    have gi := hg i hlt
    have cG := zij st[i].2 (gst i hlt)
    have cI := z10 (st[i].1 : Int) 0 2
    have hnx : ∀ s, st[i].1 ≤ 2 → st[i].2 = some s → s.good → ∀ j (h : j < st.length), j < i + 1 → st[j].1 ≤ 2 ∧ ∃ s, st[j].2 = some s ∧ s.good := fun s h1 h2 h3 j hj hji => by
     by_cases he : j < i
     ·exact hgd j hj he
     ·obtain rfl : j = i := by omega
      exact ⟨h1, s, h2, h3⟩
    have gs := gst i hlt
    obtain ⟨ya, yo, ys, yi, hO2⟩ := zaN st[i].2
    rw [hO2] at gi cG
    clear hO2 hna
    cases hso : st[i].2 with
    | none =>
      rw [hso] at cG
      change CT _ _ _ _ (.tup [.str [], .bool false]) _ at cG
      clear hnx hgd
      generalize st[i].1 = a at *
      repeat ((try conv => whnf); first | (with_reducible first | refine z0b (fun Qs hN hE hR => ?_) | refine z09 ?_ | refine z03 (fun Qb kN kE kX kR => ?_) | refine z05 ?_ | refine z06 ?_ | refine z0a ?_ | refine z07 ?_ | refine z08 ?_ | (show W _ _ _ (.cond _ _ _) _ _; refine z04 rfl ?_) | (refine hN _ ?_; try clear hN hE hR Qs; (try (conv => arg 6; dsimp only [ovl, List.set, List.map, ren0]))) | ((first | refine hE _ _ ?_ | refine hR _ ?_); try clear hN hE hR Qs) | ((first | refine kN _ ?_ | refine kE _ ?_ | refine kX _ _ rfl ?_ | refine kR _ ?_); try clear kN kE kX kR Qb)) | (refine Exists.intro st.length (And.intro hSl ?_)) | (refine z0i f1 ?_) | (refine i_at gi ?_) | (refine ccA ([]) (cG) ?_) | (refine And.intro (by kernel_rfl) ?_) | (refine stpQ ?_))
      refine hQ1 _ _ ?_
      clear hQ1 Q1
      repeat ((try conv => whnf); first | (with_reducible first | refine z0b (fun Qs hN hE hR => ?_) | refine z09 ?_ | refine z03 (fun Qb kN kE kX kR => ?_) | refine z05 ?_ | refine z06 ?_ | refine z0a ?_ | refine z07 ?_ | refine z08 ?_ | (show W _ _ _ (.cond _ _ _) _ _; refine z04 rfl ?_) | (refine hN _ ?_; try clear hN hE hR Qs; (try (conv => arg 6; dsimp only [ovl, List.set, List.map, ren0]))) | ((first | refine hE _ _ ?_ | refine hR _ ?_); try clear hN hE hR Qs) | ((first | refine kN _ ?_ | refine kE _ ?_ | refine kX _ _ rfl ?_ | refine kR _ ?_); try clear kN kE kX kR Qb)) | (refine And.intro (by kernel_rfl) ?_) | (refine stpQ ?_))
      (refine z00 (by rfl) ?_ ?_ (by rfl)) <;> (repeat' (first | (exact eqA) | (refine And.intro ?_ ?_) | ((fail_if_success (with_reducible (show _ = _))); (show _ = _))))
    | some s =>
      rw [hso] at cG
      change CT _ _ _ _ (.tup [.str (sigB s), .bool true]) _ at cG
      have gs1 := gs s hso
      have h4 := z1Y gs1
      by_cases ha : st[i].1 ≤ 2
      ·have e8 := u8_w ha
       rw [z0r.2 (show (0 : Int) ≤ ((st[i].1 : Nat) : Int) ∧ ((st[i].1 : Nat) : Int) ≤ 2 by omega)] at cI
       have hq := hnx s ha hso gs1
       clear hnx hgd
       generalize sigB s = sgt at *
       generalize hai : st[i].1 = a at gi cI e8
       have hu2 : (u ++ [UInt8.ofNat a] ++ sgt).length ≤ 20500 + 400 * (i + 1) := by
        simp only [List.length_append, List.length_cons, List.length_nil]; omega
       repeat ((try conv => whnf); first | (with_reducible first | refine z0b (fun Qs hN hE hR => ?_) | refine z09 ?_ | refine z03 (fun Qb kN kE kX kR => ?_) | refine z05 ?_ | refine z06 ?_ | refine z0a ?_ | refine z07 ?_ | refine z08 ?_ | (show W _ _ _ (.cond _ _ _) _ _; refine z04 rfl ?_) | (refine hN _ ?_; try clear hN hE hR Qs; (try (conv => arg 6; dsimp only [ovl, List.set, List.map, ren0]))) | ((first | refine hE _ _ ?_ | refine hR _ ?_); try clear hN hE hR Qs) | ((first | refine kN _ ?_ | refine kE _ ?_ | refine kX _ _ rfl ?_ | refine kR _ ?_); try clear kN kE kX kR Qb)) | (refine Exists.intro st.length (And.intro hSl ?_)) | (refine z0i f1 ?_) | (refine i_at gi ?_) | (refine ccA ([]) (cG) ?_) | (refine ccA ([]) (cI) ?_) | (refine Exists.intro _ (And.intro e8.symm ?_)) | (refine Exists.intro [UInt8.ofNat a] (And.intro rfl ?_)) | (refine And.intro (by simp only [List.length_append, List.length_cons, List.length_nil]; omega) ?_) | (refine And.intro (by kernel_rfl) ?_) | (refine stpQ ?_))
       refine ⟨(i + 1, u ++ [UInt8.ofNat a] ++ sgt), ⟨hlt, hu2, hq⟩, (by show st.length - (i + 1) < st.length - i; omega), ?_⟩
       (refine z02 (by rfl) ?_ ?_) <;> (repeat' (first | (exact eqA) | (refine And.intro ?_ ?_) | ((fail_if_success (with_reducible (show _ = _))); (show _ = _)))) <;> rfl
      ·have hI : inB ((st[i].1 : Nat) : Int) 0 2 = false := by
        cases h : inB ((st[i].1 : Nat) : Int) 0 2 with
        | false => rfl
        | true => have := z0r.1 h; exact absurd (by omega) ha
       rw [hI] at cI
       clear hnx hgd hI
       generalize sigB s = sgt at *
       generalize hai : st[i].1 = a at gi cI
       repeat ((try conv => whnf); first | (with_reducible first | refine z0b (fun Qs hN hE hR => ?_) | refine z09 ?_ | refine z03 (fun Qb kN kE kX kR => ?_) | refine z05 ?_ | refine z06 ?_ | refine z0a ?_ | refine z07 ?_ | refine z08 ?_ | (show W _ _ _ (.cond _ _ _) _ _; refine z04 rfl ?_) | (refine hN _ ?_; try clear hN hE hR Qs; (try (conv => arg 6; dsimp only [ovl, List.set, List.map, ren0]))) | ((first | refine hE _ _ ?_ | refine hR _ ?_); try clear hN hE hR Qs) | ((first | refine kN _ ?_ | refine kE _ ?_ | refine kX _ _ rfl ?_ | refine kR _ ?_); try clear kN kE kX kR Qb)) | (refine Exists.intro st.length (And.intro hSl ?_)) | (refine z0i f1 ?_) | (refine i_at gi ?_) | (refine ccA ([]) (cG) ?_) | (refine ccA ([]) (cI) ?_) | (refine And.intro (by kernel_rfl) ?_) | (refine stpQ ?_))
       refine hQ1 _ _ ?_
       clear hQ1 Q1
       repeat ((try conv => whnf); first | (with_reducible first | refine z0b (fun Qs hN hE hR => ?_) | refine z09 ?_ | refine z03 (fun Qb kN kE kX kR => ?_) | refine z05 ?_ | refine z06 ?_ | refine z0a ?_ | refine z07 ?_ | refine z08 ?_ | (show W _ _ _ (.cond _ _ _) _ _; refine z04 rfl ?_) | (refine hN _ ?_; try clear hN hE hR Qs; (try (conv => arg 6; dsimp only [ovl, List.set, List.map, ren0]))) | ((first | refine hE _ _ ?_ | refine hR _ ?_); try clear hN hE hR Qs) | ((first | refine kN _ ?_ | refine kE _ ?_ | refine kX _ _ rfl ?_ | refine kR _ ?_); try clear kN kE kX kR Qb)) | (refine And.intro (by kernel_rfl) ?_) | (refine stpQ ?_))
       (refine z00 (by rfl) ?_ ?_ (by rfl)) <;> (repeat' (first | (exact eqA) | (refine And.intro ?_ ?_) | ((fail_if_success (with_reducible (show _ = _))); (show _ = _))))
   ·exfalso
    refine hna fun y hy => ?_
    obtain ⟨j, hj, rfl⟩ := List.getElem_of_mem hy
    exact hgd j hj (by omega)
end
end Go.Proofs.YtgmbkbggnlponaaGreatDoor
namespace Go.Proofs.YtgmbkbggnlponaaGreatDoor
set_option linter.unusedVariables false
set_option linter.unusedSimpArgs false
set_option linter.unusedSectionVars false
open Go.RowKit Pl
def stS (t : Bs) : Nat → Nat → Bool → List (Nat × Option Sg) × Nat × Bool
 | 0, q, b => ([], q, b)
 | _ + 1, q, true => ([], q, true)
 | n + 1, q, false => (((z1j t q false).1, z4u (z0M t (z1j t q false).2.1 (z1j t q false).2.2 321).1) :: (stS t n (z0M t (z1j t q false).2.1 (z1j t q false).2.2 321).2.1 (z0M t (z1j t q false).2.1 (z1j t q false).2.2 321).2.2).1,
     (stS t n (z0M t (z1j t q false).2.1 (z1j t q false).2.2 321).2.1 (z0M t (z1j t q false).2.1 (z1j t q false).2.2 321).2.2).2)
def SsAt (t : Bs) (R : List (Nat × Option Sg) × Nat × Bool) (n : Nat) (s : List (Nat × Option Sg)) (q : Nat) (b : Bool) : Prop := R = (s ++ (stS t n q b).1, (stS t n q b).2)
theorem SsAt.step {t : Bs} {R : List (Nat × Option Sg) × Nat × Bool} {n : Nat} {s : List (Nat × Option Sg)} {q a q1 q2 : Nat} {b1 b2 : Bool} {u : Bs} (h : SsAt t R (n + 1) s q false) (h1 : z1j t q false = (a, q1, b1)) (h2 : z0M t q1 b1 321 = (u, q2, b2)) : SsAt t R n (s ++ [(a, z4u u)]) q2 b2 := by
 unfold SsAt at h ⊢
 rw [h, stS, h1]
 simp only [h2]
 simp
theorem SsAt.bad {t : Bs} {R : List (Nat × Option Sg) × Nat × Bool} {n : Nat} {s : List (Nat × Option Sg)} {q : Nat} (h : SsAt t R n s q true) : R = (s, q, true) := by
 unfold SsAt at h; rw [h]; cases n <;> simp [stS]
theorem SsAt.done {t : Bs} {R : List (Nat × Option Sg) × Nat × Bool} {s : List (Nat × Option Sg)} {q : Nat} {b : Bool} (h : SsAt t R 0 s q b) : R = (s, q, b) := by
 unfold SsAt at h; rw [h]; simp [stS]
theorem z8f {t : Bs} {p : Nat} {x : UInt8} {r : Bs} (h : t.drop p = x :: r) : z1j t p false = (x.toNat, p + 1, false) := by
 have h1 := z3r (t := t) (p := p) (n := 1) (l := [x]) (r := r) rfl (by rw [h]; rfl)
 unfold z1j
 rw [h1]
theorem zdY {t : Bs} {p : Nat} (h : t.length ≤ p) : z1j t p false = (0, p, true) := by
 unfold z1j z0p
 rw [if_pos]
 simp; omega
theorem z8g {t : Bs} {p n : Nat} {l r : Bs} (hn : l.length = n) (h : t.drop p = l ++ r) : z0M t p false (n : Int) = (l, p + n, false) := by
 unfold z0M
 rw [if_neg (by omega), Int.toNat_natCast]
 exact z3r hn h
theorem z8h {t : Bs} : ∀ {l : List Bs} {q : Nat} {r : Bs}, (∀ y ∈ l, y.length = 16) → t.drop q = l.flatten ++ r → z36 t 16 l.length q false = (l, q + 16 * l.length, false)
 | [], q, r, _, _ => rfl
 | y :: l, q, r, h, hd => by
   have h0 := h y (by simp)
   rw [List.flatten_cons, List.append_assoc] at hd
   have h1 : z0M t q false 16 = (y, q + 16, false) := z8g (n := 16) h0 hd
   have h2 := z0x h0 hd
   rw [List.length_cons, z36, h1]
   simp only
   rw [z8h (fun z hz => h z (by simp [hz])) h2]
   simp only [Prod.mk.injEq, and_true, true_and]
   omega
theorem zfA {t : Bs} : ∀ {l : List (Nat × Sg)} {q : Nat}, (∀ y ∈ l, y.1 ≤ 2 ∧ y.2.good) → t.drop q = stL l → stS t l.length q false = (stO l, q + 322 * l.length, false)
 | [], q, _, _ => rfl
 | y :: l, q, h, hd => by
   obtain ⟨h0, h1⟩ := h y (by simp)
   have hs := z1Y h1
   have e1 : z1j t q false = (y.1, q + 1, false) := by
    have := z8f (t := t) (p := q) (x := UInt8.ofNat y.1) (r := sigB y.2 ++ stL l) (by rw [hd]; rfl)
    rw [this]
    simp [UInt8.toNat_ofNat']
    omega
   have d1 : t.drop (q + 1) = sigB y.2 ++ stL l := by
    have := z0x (t := t) (p := q) (n := 1) (l := [UInt8.ofNat y.1]) (r := sigB y.2 ++ stL l) rfl (by rw [hd]; rfl)
    exact this
   have e2 : z0M t (q + 1) false 321 = (sigB y.2, q + 1 + 321, false) := z8g (n := 321) hs d1
   have d2 := z0x hs d1
   rw [List.length_cons, stS, e1]
   simp only [e2]
   rw [zfA (fun z hz => h z (by simp [hz])) d2, z55.2 ⟨h1, rfl⟩]
   simp only [Prod.mk.injEq, and_true]
   exact ⟨rfl, by omega⟩
section
attribute [local irreducible] z0t z0u z0y AnsP LeP W CvE
set_option maxRecDepth 100000 in
set_option maxHeartbeats 4000000 in
theorem zgL (t : Bs) (p : Nat) (b : Bool) (ht : (t.length : Int) ≤ 1000000000) (hp : p ≤ t.length) : CT Tryz.prog 51 [fldB t p b] [.ptr 1 0 0] (.int .i64 ((z1j t p b).1 : Int)) [fldB t (z1j t p b).2.1 (z1j t p b).2.2] := by
 unfold fldB
 cases b with
 | true =>
   rw [zeJ]
   refine z01 z0d 2 rfl Tryz.func51 rfl rfl rfl ?_
   conv => arg 6; whnf
   repeat ((try conv => whnf); first | (with_reducible first | refine z0b (fun Qs hN hE hR => ?_) | refine z09 ?_ | refine z03 (fun Qb kN kE kX kR => ?_) | refine z05 ?_ | refine z06 ?_ | refine z0a ?_ | refine z07 ?_ | refine z08 ?_ | (show W _ _ _ (.cond _ _ _) _ _; refine z04 rfl ?_) | (refine hN _ ?_; try clear hN hE hR Qs; (try (conv => arg 6; dsimp only [ovl, List.set, List.map, ren0]))) | ((first | refine hE _ _ ?_ | refine hR _ ?_); try clear hN hE hR Qs) | ((first | refine kN _ ?_ | refine kE _ ?_ | refine kX _ _ rfl ?_ | refine kR _ ?_); try clear kN kE kX kR Qb)) | (refine And.intro (by kernel_rfl) ?_) | (refine stpQ ?_))
   (refine z00 (by rfl) ?_ ?_ (by rfl)) <;> (repeat' (first | (exact eqA) | (refine And.intro ?_ ?_) | ((fail_if_success (with_reducible (show _ = _))); (show _ = _)))) <;> rfl
 | false =>
   by_cases hl : t.length ≤ p
   ·rw [zdY hl]
    have f1 : (p : Int) ≥ (t.length : Int) := by omega
    refine z01 z0d 2 rfl Tryz.func51 rfl rfl rfl ?_
    conv => arg 6; whnf
    repeat ((try conv => whnf); first | (with_reducible first | refine z0b (fun Qs hN hE hR => ?_) | refine z09 ?_ | refine z03 (fun Qb kN kE kX kR => ?_) | refine z05 ?_ | refine z06 ?_ | refine z0a ?_ | refine z07 ?_ | refine z08 ?_ | (show W _ _ _ (.cond _ _ _) _ _; refine z04 rfl ?_) | (refine hN _ ?_; try clear hN hE hR Qs; (try (conv => arg 6; dsimp only [ovl, List.set, List.map, ren0]))) | ((first | refine hE _ _ ?_ | refine hR _ ?_); try clear hN hE hR Qs) | ((first | refine kN _ ?_ | refine kE _ ?_ | refine kX _ _ rfl ?_ | refine kR _ ?_); try clear kN kE kX kR Qb)) | (refine z0i f1 ?_) | (refine And.intro (by kernel_rfl) ?_) | (refine stpQ ?_))
    (refine z00 (by rfl) ?_ ?_ (by rfl)) <;> (repeat' (first | (exact eqA) | (refine And.intro ?_ ?_) | ((fail_if_success (with_reducible (show _ = _))); (show _ = _)))) <;> rfl
   ·have hlt : p < t.length := by omega
    have hd : t.drop p = t[p] :: t.drop (p + 1) := List.drop_eq_getElem_cons hlt
    rw [z8f hd]
    have f1 : ¬ (p : Int) ≥ (t.length : Int) := by omega
    have g : t[p]? = some t[p] := List.getElem?_eq_getElem hlt
    have e1 : IntKind.i64.wrap (((t.getD p 0).toNat : Nat) : Int) = ((t[p].toNat : Nat) : Int) := by
     rw [show t.getD p 0 = t[p] by simp [List.getD, g]]
     exact wrap_i64 (by omega) (by have := t[p].toNat_lt; omega)
    have w1 : IntKind.i64.wrap ((p : Int) + 1) = ((p + 1 : Nat) : Int) := by rw [wrap_i64 (by omega) (by omega)]; omega
    have w2 : IntKind.i64.wrap (((p + 1 : Nat) : Int) - 1) = (p : Int) := by rw [wrap_i64 (by omega) (by omega)]; omega
    refine z01 z0d 2 rfl Tryz.func51 rfl rfl rfl ?_
    conv => arg 6; whnf
    repeat ((try conv => whnf); first | (with_reducible first | refine z0b (fun Qs hN hE hR => ?_) | refine z09 ?_ | refine z03 (fun Qb kN kE kX kR => ?_) | refine z05 ?_ | refine z06 ?_ | refine z0a ?_ | refine z07 ?_ | refine z08 ?_ | (show W _ _ _ (.cond _ _ _) _ _; refine z04 rfl ?_) | (refine hN _ ?_; try clear hN hE hR Qs; (try (conv => arg 6; dsimp only [ovl, List.set, List.map, ren0]))) | ((first | refine hE _ _ ?_ | refine hR _ ?_); try clear hN hE hR Qs) | ((first | refine kN _ ?_ | refine kE _ ?_ | refine kX _ _ rfl ?_ | refine kR _ ?_); try clear kN kE kX kR Qb)) | (refine z0k f1 ?_) | (refine Exists.intro _ (And.intro w1.symm ?_)) | (refine Exists.intro _ (And.intro w2.symm ?_)) | (refine Exists.intro p (And.intro rfl (And.intro hlt ?_))) | (refine Exists.intro _ (And.intro e1.symm ?_)) | (refine And.intro (by kernel_rfl) ?_) | (refine stpQ ?_))
    (refine z00 (by rfl) ?_ ?_ (by rfl)) <;> (repeat' (first | (exact eqA) | (refine And.intro ?_ ?_) | ((fail_if_success (with_reducible (show _ = _))); (show _ = _)))) <;> rfl
end
end Go.Proofs.YtgmbkbggnlponaaGreatDoor
namespace Go.Proofs.YtgmbkbggnlponaaGreatDoor
set_option linter.unusedVariables false
set_option linter.unusedSimpArgs false
set_option linter.unusedSectionVars false
open Go.RowKit Pl
def wh0E : List T := [.sl 2 [], .sl 1 [], .sl 1 [], .int .i64 0, .int .i64 0, .str [], .str [], .int .i64 0, .sl 1 [], .sl 1 [], .sl 1 [], .sl 5 []]
theorem slR_O (t : Bs) : slR t = [.agg (slO (z1i t)), .bool (z1i t).isSome] := by
 unfold slR
 cases z1i t with
 | none => rfl
 | some y => rfl
theorem sgR_O (t : Bs) : sgR t = [.agg (sgO (z4u t)), .bool (z4u t).isSome] := by
 unfold sgR
 cases z4u t with
 | none => rfl
 | some y => rfl
def okS (one : Bool) (l : List (Nat × Option Sg)) : Bool := one && l.all fun y => y.2.isSome
theorem zik (one : Bool) (l : List (Nat × Option Sg)) (y : Nat × Option Sg) : okS one (l ++ [y]) = (okS one l && y.2.isSome) := by simp [okS, Bool.and_assoc]
section
attribute [local irreducible] z0t z0u z0y AnsP LeP W CvE
set_option maxRecDepth 100000 in
set_option maxHeartbeats 16000000 in
theorem z7l (t : Bs) (ht : t.length ≤ 100000000) (pb : Bs) (q1 : Nat) (b1 : Bool) (B : List Lf) (S : List Bs) (one : Bool) (n q2 : Nat) (b2 : Bool) (Tp : List Bs) (q3 : Nat) (b3 : Bool) (sb : Bs) (q4 : Nat) (b4 : Bool) (m q5 : Nat) (b5 : Bool) (st : List (Nat × Option Sg)) (q6 : Nat) (b6 : Bool) (back : Bs) (fine : Bool)
 (hS0 : z1x t 0 false = (pb, q1, b1)) (kpf : CT Tryz.prog 46 [] [.str pb, .int .i64 16] (.tup [.agg [.ref 1, .ref 2], .bool one]) [.row 2 (lvE B), .row 1 (strE S)]) (hN1 : numS t q1 b1 = (n, q2, b2)) (hT : z36 t 16 (min n 4) q2 b2 = (Tp, q3, b3)) (hS3 : z1x t q3 b3 = (sb, q4, b4)) (hN4 : numS t q4 b4 = (m, q5, b5)) (hSt : stS t (min m 5) q5 b5 = (st, q6, b6))
 (cT : CT Tryz.prog 34 [] [.agg (whC B S Tp (z1i sb) st)] (.tup [.str back, .bool fine]) []) (fl : Bool) (hfl : fl = (!b6 && okS one st && (z1i sb).isSome && fine && decide (back = t))) :
 CT Tryz.prog 10 [] [.str t] (.tup [.agg (bif fl then whC B S Tp (z1i sb) st else wh0E), .bool fl]) [] := by
 have ht' : (t.length : Int) ≤ 1000000000 := by omega
 have c0 := z4R t 0 false ht' (Nat.zero_le _)
 have l0 := z2t (t := t) (p := 0) (bad := false) (Nat.zero_le _)
 rw [hS0] at c0 l0
 simp only at c0 l0
 have c1 := zcx t q1 b1 ht' l0.1
 have l1 := z4l (t := t) (p := q1) (bad := b1) l0.1
 rw [hN1] at c1 l1
 simp only at c1 l1
 have lT : q3 ≤ t.length := by
  have key : ∀ (k q : Nat) (b : Bool), q ≤ t.length → (z36 t 16 k q b).2.1 ≤ t.length := by
   intro k
   induction k with
   | zero => intro q b h; exact h
   | succ k ih =>
     intro q b h
     cases b with
     | true => exact h
     | false => exact ih _ _ (z4S h)
  have := key (min n 4) q2 b2 l1.1
  rw [hT] at this
  exact this
 have c3 := z4R t q3 b3 ht' lT
 have l3 := z2t (t := t) (p := q3) (bad := b3) lT
 rw [hS3] at c3 l3
 simp only at c3 l3
 have cR := zaA sb (by omega)
 rw [slR_O] at cR
 have c4 := zcx t q4 b4 ht' l3.1
 have l4 := z4l (t := t) (p := q4) (bad := b4) l3.1
 rw [hN4] at c4 l4
 simp only at c4 l4
 obtain ⟨zh, ze, zr, zp, za, zo, zs, zi, hO⟩ := zaM (z1i sb)
 unfold whC at cT ⊢
 unfold wh0E
 rw [hO] at cR cT ⊢
 simp only [List.cons_append, List.nil_append] at cT ⊢
 clear hS0 hN1 hS3 hN4 hO
 generalize (z1i sb).isSome = two at *
 have ho : okS one [] = one := by simp [okS]
 unfold fldB at *
 refine z01 z0d 1 rfl Tryz.func10 rfl rfl rfl ?_
 conv => arg 6; whnf
 repeat ((try conv => whnf); first | (with_reducible first | refine z0b (fun Qs hN hE hR => ?_) | refine z09 ?_ | refine z03 (fun Qb kN kE kX kR => ?_) | refine z05 ?_ | refine z06 ?_ | refine z0a ?_ | refine z07 ?_ | refine z08 ?_ | (show W _ _ _ (.cond _ _ _) _ _; refine z04 rfl ?_) | (refine hN _ ?_; try clear hN hE hR Qs; (try (conv => arg 6; dsimp only [ovl, List.set, List.map, ren0]))) | ((first | refine hE _ _ ?_ | refine hR _ ?_); try clear hN hE hR Qs) | ((first | refine kN _ ?_ | refine kE _ ?_ | refine kX _ _ rfl ?_ | refine kR _ ?_); try clear kN kE kX kR Qb)) | (refine ccB ([_]) (c0) ?_) | (refine ccA ([]) (kpf) ?_) | (refine ccB ([_]) (c1) ?_) | (refine And.intro (by kernel_rfl) ?_) | (refine stpQ ?_))
 refine z0h 0 ⟨[(0, .str t), (2, .ptr 1 0 0), (4, .ptr 2 0 0), (5, .ptr 3 0 0), (7, .bool one)], [(1, some (.box [.val nilV, .val nilV, .val nilV, .int .i64 0, .int .i64 0, .str [], .str [], .int .i64 0, .val nilV, .val nilV, .val nilV, .val nilV])), (2, some (.box [.str t, .int .i64 (q3 : Int), .bool b3])), (3, some (.box [.ref 4, .ref 5, .ref 6, .int .i64 0, .int .i64 0, .str [], .str [], .int .i64 0, .val nilV, .val nilV, .val nilV, .val nilV])), (4, some (.row 2 (lvE B))), (5, some (.row 1 (strE S))), (6, some (.row 1 (strE Tp)))], 7⟩ (Nat × Nat × Bool × List Bs) (fun x => ⟨[(0, .str t), (2, .ptr 1 0 0), (4, .ptr 2 0 0), (5, .ptr 3 0 0), (7, .bool one), (8, .int .i64 (n : Int)), (9, .int .i64 (x.1 : Int))], [(1, some (.box [.val nilV, .val nilV, .val nilV, .int .i64 0, .int .i64 0, .str [], .str [], .int .i64 0, .val nilV, .val nilV, .val nilV, .val nilV])), (2, some (.box [.str t, .int .i64 (x.2.1 : Int), .bool x.2.2.1])), (3, some (.box [.ref 4, .ref 5, .ref 6, .int .i64 0, .int .i64 0, .str [], .str [], .int .i64 0, .val nilV, .val nilV, .val nilV, .val nilV])), (4, some (.row 2 (lvE B))), (5, some (.row 1 (strE S))), (6, some (.row 1 (strE x.2.2.2)))], 7⟩) (fun x => x.1 ≤ min n 4 ∧ x.2.2.2.length = x.1 ∧ SdAt t 16 (Tp, q3, b3) (min n 4 - x.1) x.2.2.2 x.2.1 x.2.2.1 ∧ x.2.1 ≤ t.length) (fun x => min n 4 - x.1) (0, q2, b2, []) ⟨Nat.zero_le _, rfl, by unfold SdAt; rw [Nat.sub_zero, hT]; rfl, l1.1⟩ ?_ ?_ ?_
 ·(refine z02 (by rfl) ?_ ?_)
  all_goals (repeat' (first | (exact trivial) | ((try conv => whnf); first | (exact trivial) | (refine And.intro ?_ ?_))))
  all_goals first
   | rfl
   | decide
 ·intro x hx
  obtain ⟨k, q, bd, s⟩ := x
  obtain ⟨hk, hl, hat, hq⟩ := hx
  dsimp only at hk hl hat hq ⊢
  have hll := z0c s
  by_cases hgo : bd = false ∧ k < min n 4
  ·obtain ⟨rfl, hlt⟩ := hgo
   obtain ⟨m', hm⟩ : ∃ m', min n 4 - k = m' + 1 := ⟨min n 4 - k - 1, by omega⟩
   rw [hm] at hat
   have c5 := zbq t q false 16 ht' hq
   have hst := hat.step
   have hle := z4S (w := 16) (b := false) hq
   have k1 : (k : Int) < (n : Int) := by omega
   have k2 : (k : Int) < 4 := by omega
   rcases hTk : z0M t q false 16 with ⟨u, q', b'⟩
   rw [hTk] at c5 hst hle
   dsimp only at c5 hst hle
   have happ : strE (s ++ [u]) = strE s ++ [[.str u]] := by simp [strE]
   unfold fldB at c5
   repeat ((try conv => whnf); first | (with_reducible first | refine z0b (fun Qs hN hE hR => ?_) | refine z09 ?_ | refine z03 (fun Qb kN kE kX kR => ?_) | refine z05 ?_ | refine z06 ?_ | refine z0a ?_ | refine z07 ?_ | refine z08 ?_ | (show W _ _ _ (.cond _ _ _) _ _; refine z04 rfl ?_) | (refine hN _ ?_; try clear hN hE hR Qs; (try (conv => arg 6; dsimp only [ovl, List.set, List.map, ren0]))) | ((first | refine hE _ _ ?_ | refine hR _ ?_); try clear hN hE hR Qs) | ((first | refine kN _ ?_ | refine kE _ ?_ | refine kX _ _ rfl ?_ | refine kR _ ?_); try clear kN kE kX kR Qb)) | (refine z0i k1 ?_) | (refine z0i k2 ?_) | (refine ccB ([_]) (c5) ?_) | (refine And.intro (by simp only [List.length_append, List.length_set, List.length_replicate, List.length_cons, List.length_nil]; omega) ?_) | (refine And.intro (by kernel_rfl) ?_) | (refine stpQ ?_))
   refine ⟨(k + 1, q', b', s ++ [u]), ⟨by show k + 1 ≤ min n 4; omega, by simp [hl], ?_, hle⟩, (by show min n 4 - (k + 1) < min n 4 - k; omega), ?_⟩
   ·show SdAt t 16 (Tp, q3, b3) (min n 4 - (k + 1)) (s ++ [u]) q' b'
    rw [show min n 4 - (k + 1) = m' by omega]
    exact hst
   ·(try dsimp only)
    rw [happ]
    (refine z02 (by rfl) ?_ ?_) <;> (repeat' (first | (exact eqA) | (refine And.intro ?_ ?_) | ((fail_if_success (with_reducible (show _ = _))); (show _ = _)))) <;> rfl
  ·have e : (Tp, q3, b3) = (s, q, bd) := by
    cases bd
    ·have hkn : min n 4 - k = 0 := by
      have : ¬ k < min n 4 := fun h => hgo ⟨rfl, h⟩
      omega
     rw [hkn] at hat; exact hat.done
    ·exact hat.bad
   simp only [Prod.mk.injEq] at e
   obtain ⟨e1, e2, e3⟩ := e
   subst e1 e2 e3
   cases b3 with
   | true =>
     by_cases k1 : (k : Int) < (n : Int)
     ·by_cases k2 : (k : Int) < 4
      ·repeat ((try conv => whnf); first | (with_reducible first | refine z0b (fun Qs hN hE hR => ?_) | refine z09 ?_ | refine z03 (fun Qb kN kE kX kR => ?_) | refine z05 ?_ | refine z06 ?_ | refine z0a ?_ | refine z07 ?_ | refine z08 ?_ | (show W _ _ _ (.cond _ _ _) _ _; refine z04 rfl ?_) | (refine hN _ ?_; try clear hN hE hR Qs; (try (conv => arg 6; dsimp only [ovl, List.set, List.map, ren0]))) | ((first | refine hE _ _ ?_ | refine hR _ ?_); try clear hN hE hR Qs) | ((first | refine kN _ ?_ | refine kE _ ?_ | refine kX _ _ rfl ?_ | refine kR _ ?_); try clear kN kE kX kR Qb)) | (refine z0i k1 ?_) | (refine z0i k2 ?_) | (refine stpQ ?_))
       (refine z02 (by rfl) ?_ ?_) <;> (repeat' (first | (exact eqA) | (refine And.intro ?_ ?_) | ((fail_if_success (with_reducible (show _ = _))); (show _ = _)))) <;> rfl
      ·repeat ((try conv => whnf); first | (with_reducible first | refine z0b (fun Qs hN hE hR => ?_) | refine z09 ?_ | refine z03 (fun Qb kN kE kX kR => ?_) | refine z05 ?_ | refine z06 ?_ | refine z0a ?_ | refine z07 ?_ | refine z08 ?_ | (show W _ _ _ (.cond _ _ _) _ _; refine z04 rfl ?_) | (refine hN _ ?_; try clear hN hE hR Qs; (try (conv => arg 6; dsimp only [ovl, List.set, List.map, ren0]))) | ((first | refine hE _ _ ?_ | refine hR _ ?_); try clear hN hE hR Qs) | ((first | refine kN _ ?_ | refine kE _ ?_ | refine kX _ _ rfl ?_ | refine kR _ ?_); try clear kN kE kX kR Qb)) | (refine z0i k1 ?_) | (refine z0k k2 ?_) | (refine stpQ ?_))
       (refine z02 (by rfl) ?_ ?_) <;> (repeat' (first | (exact eqA) | (refine And.intro ?_ ?_) | ((fail_if_success (with_reducible (show _ = _))); (show _ = _)))) <;> rfl
     ·repeat ((try conv => whnf); first | (with_reducible first | refine z0b (fun Qs hN hE hR => ?_) | refine z09 ?_ | refine z03 (fun Qb kN kE kX kR => ?_) | refine z05 ?_ | refine z06 ?_ | refine z0a ?_ | refine z07 ?_ | refine z08 ?_ | (show W _ _ _ (.cond _ _ _) _ _; refine z04 rfl ?_) | (refine hN _ ?_; try clear hN hE hR Qs; (try (conv => arg 6; dsimp only [ovl, List.set, List.map, ren0]))) | ((first | refine hE _ _ ?_ | refine hR _ ?_); try clear hN hE hR Qs) | ((first | refine kN _ ?_ | refine kE _ ?_ | refine kX _ _ rfl ?_ | refine kR _ ?_); try clear kN kE kX kR Qb)) | (refine z0k k1 ?_) | (refine stpQ ?_))
      (refine z02 (by rfl) ?_ ?_) <;> (repeat' (first | (exact eqA) | (refine And.intro ?_ ?_) | ((fail_if_success (with_reducible (show _ = _))); (show _ = _)))) <;> rfl
   | false =>
     have hnk : ¬ k < min n 4 := fun h => hgo ⟨rfl, h⟩
     by_cases k1 : (k : Int) < (n : Int)
     ·have k2 : ¬ (k : Int) < 4 := by omega
      repeat ((try conv => whnf); first | (with_reducible first | refine z0b (fun Qs hN hE hR => ?_) | refine z09 ?_ | refine z03 (fun Qb kN kE kX kR => ?_) | refine z05 ?_ | refine z06 ?_ | refine z0a ?_ | refine z07 ?_ | refine z08 ?_ | (show W _ _ _ (.cond _ _ _) _ _; refine z04 rfl ?_) | (refine hN _ ?_; try clear hN hE hR Qs; (try (conv => arg 6; dsimp only [ovl, List.set, List.map, ren0]))) | ((first | refine hE _ _ ?_ | refine hR _ ?_); try clear hN hE hR Qs) | ((first | refine kN _ ?_ | refine kE _ ?_ | refine kX _ _ rfl ?_ | refine kR _ ?_); try clear kN kE kX kR Qb)) | (refine z0i k1 ?_) | (refine z0k k2 ?_) | (refine stpQ ?_))
      (refine z02 (by rfl) ?_ ?_) <;> (repeat' (first | (exact eqA) | (refine And.intro ?_ ?_) | ((fail_if_success (with_reducible (show _ = _))); (show _ = _)))) <;> rfl
     ·repeat ((try conv => whnf); first | (with_reducible first | refine z0b (fun Qs hN hE hR => ?_) | refine z09 ?_ | refine z03 (fun Qb kN kE kX kR => ?_) | refine z05 ?_ | refine z06 ?_ | refine z0a ?_ | refine z07 ?_ | refine z08 ?_ | (show W _ _ _ (.cond _ _ _) _ _; refine z04 rfl ?_) | (refine hN _ ?_; try clear hN hE hR Qs; (try (conv => arg 6; dsimp only [ovl, List.set, List.map, ren0]))) | ((first | refine hE _ _ ?_ | refine hR _ ?_); try clear hN hE hR Qs) | ((first | refine kN _ ?_ | refine kE _ ?_ | refine kX _ _ rfl ?_ | refine kR _ ?_); try clear kN kE kX kR Qb)) | (refine z0k k1 ?_) | (refine stpQ ?_))
      (refine z02 (by rfl) ?_ ?_) <;> (repeat' (first | (exact eqA) | (refine And.intro ?_ ?_) | ((fail_if_success (with_reducible (show _ = _))); (show _ = _)))) <;> rfl
 ·repeat ((try conv => whnf); first | (with_reducible first | refine z0b (fun Qs hN hE hR => ?_) | refine z09 ?_ | refine z03 (fun Qb kN kE kX kR => ?_) | refine z05 ?_ | refine z06 ?_ | refine z0a ?_ | refine z07 ?_ | refine z08 ?_ | (show W _ _ _ (.cond _ _ _) _ _; refine z04 rfl ?_) | (refine hN _ ?_; try clear hN hE hR Qs; (try (conv => arg 6; dsimp only [ovl, List.set, List.map, ren0]))) | ((first | refine hE _ _ ?_ | refine hR _ ?_); try clear hN hE hR Qs) | ((first | refine kN _ ?_ | refine kE _ ?_ | refine kX _ _ rfl ?_ | refine kR _ ?_); try clear kN kE kX kR Qb)) | (refine ccB ([_]) (c3) ?_) | (refine ccA ([]) (cR) ?_) | (refine ccB ([_]) (c4) ?_) | (refine And.intro (by kernel_rfl) ?_) | (refine stpQ ?_))
  refine z0h 2 ⟨[(0, .str t), (2, .ptr 1 0 0), (4, .ptr 2 0 0), (5, .ptr 3 0 0), (7, .bool (okS one st)), (11, .bool two)], [(1, some (.box [.val nilV, .val nilV, .val nilV, .int .i64 0, .int .i64 0, .str [], .str [], .int .i64 0, .val nilV, .val nilV, .val nilV, .val nilV])), (2, some (.box [.str t, .int .i64 (q6 : Int), .bool b6])), (3, some (.box [.ref 4, .ref 5, .ref 6, .int .i64 zh, .int .i64 ze, .str zr, .str zp, .int .i64 za, .sl 1 zo, .sl 1 zs, .sl 1 zi, .ref 7])), (4, some (.row 2 (lvE B))), (5, some (.row 1 (strE S))), (6, some (.row 1 (strE Tp))), (7, some (.row 5 (stX st)))], 8⟩ (Nat × Nat × Bool × List (Nat × Option Sg)) (fun x => ⟨[(0, .str t), (2, .ptr 1 0 0), (4, .ptr 2 0 0), (5, .ptr 3 0 0), (7, .bool (okS one x.2.2.2)), (11, .bool two), (12, .int .i64 (m : Int)), (13, .int .i64 (x.1 : Int))], [(1, some (.box [.val nilV, .val nilV, .val nilV, .int .i64 0, .int .i64 0, .str [], .str [], .int .i64 0, .val nilV, .val nilV, .val nilV, .val nilV])), (2, some (.box [.str t, .int .i64 (x.2.1 : Int), .bool x.2.2.1])), (3, some (.box [.ref 4, .ref 5, .ref 6, .int .i64 zh, .int .i64 ze, .str zr, .str zp, .int .i64 za, .sl 1 zo, .sl 1 zs, .sl 1 zi, .ref 7])), (4, some (.row 2 (lvE B))), (5, some (.row 1 (strE S))), (6, some (.row 1 (strE Tp))), (7, some (.row 5 (stX x.2.2.2)))], 8⟩) (fun x => x.1 ≤ min m 5 ∧ x.2.2.2.length = x.1 ∧ SsAt t (st, q6, b6) (min m 5 - x.1) x.2.2.2 x.2.1 x.2.2.1 ∧ x.2.1 ≤ t.length) (fun x => min m 5 - x.1) (0, q5, b5, []) ⟨Nat.zero_le _, rfl, by unfold SsAt; rw [Nat.sub_zero, hSt]; rfl, l4.1⟩ ?_ ?_ ?_
  ·(try dsimp only)
   rw [ho]
   (refine z02 (by rfl) ?_ ?_)
   all_goals (repeat' (first | (exact trivial) | ((try conv => whnf); first | (exact trivial) | (refine And.intro ?_ ?_))))
   all_goals first
    | rfl
    | decide
  ·intro x hx
   obtain ⟨k, q, bd, s⟩ := x
   obtain ⟨hk, hl, hat, hq⟩ := hx
   dsimp only at hk hl hat hq ⊢
   have hll := zfz s
   by_cases hgo : bd = false ∧ k < min m 5
   ·obtain ⟨rfl, hlt⟩ := hgo
    obtain ⟨m', hm⟩ : ∃ m', min m 5 - k = m' + 1 := ⟨min m 5 - k - 1, by omega⟩
    rw [hm] at hat
    have c5 := zgL t q false ht' hq
    have l5 := z4L (t := t) (p := q) (b := false) hq
    rcases hA : z1j t q false with ⟨a, q', b'⟩
    rw [hA] at c5 l5
    dsimp only at c5 l5
    have c6 := zbq t q' b' 321 ht' l5.1
    have l6 := z4S (t := t) (w := 321) (b := b') l5.1
    have hul : (z0M t q' b' 321).1.length ≤ 321 := by
     unfold z0M z0p
     split
     ·simp
     ·split
      ·simp
      ·simp only [List.length_take, List.length_drop]
       show min (321 : Int).toNat _ ≤ 321
       rw [show (321 : Int).toNat = 321 from rfl]
       omega
    rcases hC : z0M t q' b' 321 with ⟨u, q'', b''⟩
    rw [hC] at c6 l6 hul
    dsimp only at c6 l6 hul
    have hst := hat.step hA hC
    have c7 := z7h u (by omega)
    rw [sgR_O] at c7
    have hok := zik one s (a, z4u u)
    have happ := zih s (a, z4u u)
    dsimp only at hok happ
    obtain ⟨ya, yo, ys, yi, hO2⟩ := zaN (z4u u)
    rw [hO2] at c7 happ
    have k1 : (k : Int) < (m : Int) := by omega
    have k2 : (k : Int) < 5 := by omega
    clear hO2 hat hA hC
    generalize z4u u = ou at *
    unfold fldB at c5 c6
    generalize okS one s = ok at *
    generalize ou.isSome = og at *
    cases ok <;> cases og
    all_goals
     repeat ((try conv => whnf); first | (with_reducible first | refine z0b (fun Qs hN hE hR => ?_) | refine z09 ?_ | refine z03 (fun Qb kN kE kX kR => ?_) | refine z05 ?_ | refine z06 ?_ | refine z0a ?_ | refine z07 ?_ | refine z08 ?_ | (show W _ _ _ (.cond _ _ _) _ _; refine z04 rfl ?_) | (refine hN _ ?_; try clear hN hE hR Qs; (try (conv => arg 6; dsimp only [ovl, List.set, List.map, ren0]))) | ((first | refine hE _ _ ?_ | refine hR _ ?_); try clear hN hE hR Qs) | ((first | refine kN _ ?_ | refine kE _ ?_ | refine kX _ _ rfl ?_ | refine kR _ ?_); try clear kN kE kX kR Qb)) | (refine z0i k1 ?_) | (refine z0i k2 ?_) | (refine ccB ([_]) (c5) ?_) | (refine ccB ([_]) (c6) ?_) | (refine ccA ([]) (c7) ?_) | (refine And.intro (by simp only [List.length_append, List.length_set, List.length_replicate, List.length_cons, List.length_nil]; omega) ?_) | (refine And.intro (by kernel_rfl) ?_) | (refine stpQ ?_))
     refine ⟨(k + 1, q'', b'', s ++ [(a, ou)]), ⟨by show k + 1 ≤ min m 5; omega, by simp [hl], ?_, l6⟩, (by show min m 5 - (k + 1) < min m 5 - k; omega), ?_⟩
     ·show SsAt t (st, q6, b6) (min m 5 - (k + 1)) (s ++ [(a, ou)]) q'' b''
      rw [show min m 5 - (k + 1) = m' by omega]
      exact hst
     ·(try dsimp only)
      rw [happ, hok]
      (refine z02 (by rfl) ?_ ?_) <;> (repeat' (first | (exact eqA) | (refine And.intro ?_ ?_) | ((fail_if_success (with_reducible (show _ = _))); (show _ = _)))) <;> rfl
   ·have e : (st, q6, b6) = (s, q, bd) := by
     cases bd
     ·have hkn : min m 5 - k = 0 := by
       have : ¬ k < min m 5 := fun h => hgo ⟨rfl, h⟩
       omega
      rw [hkn] at hat; exact hat.done
     ·exact hat.bad
    simp only [Prod.mk.injEq] at e
    obtain ⟨e1, e2, e3⟩ := e
    subst e1 e2 e3
    cases b6 with
    | true =>
      by_cases k1 : (k : Int) < (m : Int)
      ·by_cases k2 : (k : Int) < 5
       ·repeat ((try conv => whnf); first | (with_reducible first | refine z0b (fun Qs hN hE hR => ?_) | refine z09 ?_ | refine z03 (fun Qb kN kE kX kR => ?_) | refine z05 ?_ | refine z06 ?_ | refine z0a ?_ | refine z07 ?_ | refine z08 ?_ | (show W _ _ _ (.cond _ _ _) _ _; refine z04 rfl ?_) | (refine hN _ ?_; try clear hN hE hR Qs; (try (conv => arg 6; dsimp only [ovl, List.set, List.map, ren0]))) | ((first | refine hE _ _ ?_ | refine hR _ ?_); try clear hN hE hR Qs) | ((first | refine kN _ ?_ | refine kE _ ?_ | refine kX _ _ rfl ?_ | refine kR _ ?_); try clear kN kE kX kR Qb)) | (refine z0i k1 ?_) | (refine z0i k2 ?_) | (refine stpQ ?_))
        (refine z02 (by rfl) ?_ ?_) <;> (repeat' (first | (exact eqA) | (refine And.intro ?_ ?_) | ((fail_if_success (with_reducible (show _ = _))); (show _ = _)))) <;> rfl
       ·repeat ((try conv => whnf); first | (with_reducible first | refine z0b (fun Qs hN hE hR => ?_) | refine z09 ?_ | refine z03 (fun Qb kN kE kX kR => ?_) | refine z05 ?_ | refine z06 ?_ | refine z0a ?_ | refine z07 ?_ | refine z08 ?_ | (show W _ _ _ (.cond _ _ _) _ _; refine z04 rfl ?_) | (refine hN _ ?_; try clear hN hE hR Qs; (try (conv => arg 6; dsimp only [ovl, List.set, List.map, ren0]))) | ((first | refine hE _ _ ?_ | refine hR _ ?_); try clear hN hE hR Qs) | ((first | refine kN _ ?_ | refine kE _ ?_ | refine kX _ _ rfl ?_ | refine kR _ ?_); try clear kN kE kX kR Qb)) | (refine z0i k1 ?_) | (refine z0k k2 ?_) | (refine stpQ ?_))
        (refine z02 (by rfl) ?_ ?_) <;> (repeat' (first | (exact eqA) | (refine And.intro ?_ ?_) | ((fail_if_success (with_reducible (show _ = _))); (show _ = _)))) <;> rfl
      ·repeat ((try conv => whnf); first | (with_reducible first | refine z0b (fun Qs hN hE hR => ?_) | refine z09 ?_ | refine z03 (fun Qb kN kE kX kR => ?_) | refine z05 ?_ | refine z06 ?_ | refine z0a ?_ | refine z07 ?_ | refine z08 ?_ | (show W _ _ _ (.cond _ _ _) _ _; refine z04 rfl ?_) | (refine hN _ ?_; try clear hN hE hR Qs; (try (conv => arg 6; dsimp only [ovl, List.set, List.map, ren0]))) | ((first | refine hE _ _ ?_ | refine hR _ ?_); try clear hN hE hR Qs) | ((first | refine kN _ ?_ | refine kE _ ?_ | refine kX _ _ rfl ?_ | refine kR _ ?_); try clear kN kE kX kR Qb)) | (refine z0k k1 ?_) | (refine stpQ ?_))
       (refine z02 (by rfl) ?_ ?_) <;> (repeat' (first | (exact eqA) | (refine And.intro ?_ ?_) | ((fail_if_success (with_reducible (show _ = _))); (show _ = _)))) <;> rfl
    | false =>
      have hnk : ¬ k < min m 5 := fun h => hgo ⟨rfl, h⟩
      by_cases k1 : (k : Int) < (m : Int)
      ·have k2 : ¬ (k : Int) < 5 := by omega
       repeat ((try conv => whnf); first | (with_reducible first | refine z0b (fun Qs hN hE hR => ?_) | refine z09 ?_ | refine z03 (fun Qb kN kE kX kR => ?_) | refine z05 ?_ | refine z06 ?_ | refine z0a ?_ | refine z07 ?_ | refine z08 ?_ | (show W _ _ _ (.cond _ _ _) _ _; refine z04 rfl ?_) | (refine hN _ ?_; try clear hN hE hR Qs; (try (conv => arg 6; dsimp only [ovl, List.set, List.map, ren0]))) | ((first | refine hE _ _ ?_ | refine hR _ ?_); try clear hN hE hR Qs) | ((first | refine kN _ ?_ | refine kE _ ?_ | refine kX _ _ rfl ?_ | refine kR _ ?_); try clear kN kE kX kR Qb)) | (refine z0i k1 ?_) | (refine z0k k2 ?_) | (refine stpQ ?_))
       (refine z02 (by rfl) ?_ ?_) <;> (repeat' (first | (exact eqA) | (refine And.intro ?_ ?_) | ((fail_if_success (with_reducible (show _ = _))); (show _ = _)))) <;> rfl
      ·repeat ((try conv => whnf); first | (with_reducible first | refine z0b (fun Qs hN hE hR => ?_) | refine z09 ?_ | refine z03 (fun Qb kN kE kX kR => ?_) | refine z05 ?_ | refine z06 ?_ | refine z0a ?_ | refine z07 ?_ | refine z08 ?_ | (show W _ _ _ (.cond _ _ _) _ _; refine z04 rfl ?_) | (refine hN _ ?_; try clear hN hE hR Qs; (try (conv => arg 6; dsimp only [ovl, List.set, List.map, ren0]))) | ((first | refine hE _ _ ?_ | refine hR _ ?_); try clear hN hE hR Qs) | ((first | refine kN _ ?_ | refine kE _ ?_ | refine kX _ _ rfl ?_ | refine kR _ ?_); try clear kN kE kX kR Qb)) | (refine z0k k1 ?_) | (refine stpQ ?_))
       (refine z02 (by rfl) ?_ ?_) <;> (repeat' (first | (exact eqA) | (refine And.intro ?_ ?_) | ((fail_if_success (with_reducible (show _ = _))); (show _ = _)))) <;> rfl
  ·clear hT hSt
   generalize okS one st = ok at *
   cases b6 with
   | true =>
     obtain rfl : fl = false := by rw [hfl]; rfl
     repeat ((try conv => whnf); first | (with_reducible first | refine z0b (fun Qs hN hE hR => ?_) | refine z09 ?_ | refine z03 (fun Qb kN kE kX kR => ?_) | refine z05 ?_ | refine z06 ?_ | refine z0a ?_ | refine z07 ?_ | refine z08 ?_ | (show W _ _ _ (.cond _ _ _) _ _; refine z04 rfl ?_) | (refine hN _ ?_; try clear hN hE hR Qs; (try (conv => arg 6; dsimp only [ovl, List.set, List.map, ren0]))) | ((first | refine hE _ _ ?_ | refine hR _ ?_); try clear hN hE hR Qs) | ((first | refine kN _ ?_ | refine kE _ ?_ | refine kX _ _ rfl ?_ | refine kR _ ?_); try clear kN kE kX kR Qb)) | (refine ccA ([]) (cT) ?_) | (refine And.intro (by kernel_rfl) ?_) | (refine stpQ ?_))
     (refine z00 (by rfl) ?_ ?_ (by rfl)) <;> (repeat' (first | (exact eqA) | (refine And.intro ?_ ?_) | ((fail_if_success (with_reducible (show _ = _))); (show _ = _)))) <;> rfl
   | false =>
     cases ok with
     | false =>
       obtain rfl : fl = false := by rw [hfl]; rfl
       repeat ((try conv => whnf); first | (with_reducible first | refine z0b (fun Qs hN hE hR => ?_) | refine z09 ?_ | refine z03 (fun Qb kN kE kX kR => ?_) | refine z05 ?_ | refine z06 ?_ | refine z0a ?_ | refine z07 ?_ | refine z08 ?_ | (show W _ _ _ (.cond _ _ _) _ _; refine z04 rfl ?_) | (refine hN _ ?_; try clear hN hE hR Qs; (try (conv => arg 6; dsimp only [ovl, List.set, List.map, ren0]))) | ((first | refine hE _ _ ?_ | refine hR _ ?_); try clear hN hE hR Qs) | ((first | refine kN _ ?_ | refine kE _ ?_ | refine kX _ _ rfl ?_ | refine kR _ ?_); try clear kN kE kX kR Qb)) | (refine ccA ([]) (cT) ?_) | (refine And.intro (by kernel_rfl) ?_) | (refine stpQ ?_))
       (refine z00 (by rfl) ?_ ?_ (by rfl)) <;> (repeat' (first | (exact eqA) | (refine And.intro ?_ ?_) | ((fail_if_success (with_reducible (show _ = _))); (show _ = _)))) <;> rfl
     | true =>
       cases two with
       | false =>
         obtain rfl : fl = false := by rw [hfl]; rfl
         repeat ((try conv => whnf); first | (with_reducible first | refine z0b (fun Qs hN hE hR => ?_) | refine z09 ?_ | refine z03 (fun Qb kN kE kX kR => ?_) | refine z05 ?_ | refine z06 ?_ | refine z0a ?_ | refine z07 ?_ | refine z08 ?_ | (show W _ _ _ (.cond _ _ _) _ _; refine z04 rfl ?_) | (refine hN _ ?_; try clear hN hE hR Qs; (try (conv => arg 6; dsimp only [ovl, List.set, List.map, ren0]))) | ((first | refine hE _ _ ?_ | refine hR _ ?_); try clear hN hE hR Qs) | ((first | refine kN _ ?_ | refine kE _ ?_ | refine kX _ _ rfl ?_ | refine kR _ ?_); try clear kN kE kX kR Qb)) | (refine ccA ([]) (cT) ?_) | (refine And.intro (by kernel_rfl) ?_) | (refine stpQ ?_))
         (refine z00 (by rfl) ?_ ?_ (by rfl)) <;> (repeat' (first | (exact eqA) | (refine And.intro ?_ ?_) | ((fail_if_success (with_reducible (show _ = _))); (show _ = _)))) <;> rfl
       | true =>
         cases fine with
         | false =>
           obtain rfl : fl = false := by rw [hfl]; rfl
           repeat ((try conv => whnf); first | (with_reducible first | refine z0b (fun Qs hN hE hR => ?_) | refine z09 ?_ | refine z03 (fun Qb kN kE kX kR => ?_) | refine z05 ?_ | refine z06 ?_ | refine z0a ?_ | refine z07 ?_ | refine z08 ?_ | (show W _ _ _ (.cond _ _ _) _ _; refine z04 rfl ?_) | (refine hN _ ?_; try clear hN hE hR Qs; (try (conv => arg 6; dsimp only [ovl, List.set, List.map, ren0]))) | ((first | refine hE _ _ ?_ | refine hR _ ?_); try clear hN hE hR Qs) | ((first | refine kN _ ?_ | refine kE _ ?_ | refine kX _ _ rfl ?_ | refine kR _ ?_); try clear kN kE kX kR Qb)) | (refine ccA ([]) (cT) ?_) | (refine And.intro (by kernel_rfl) ?_) | (refine stpQ ?_))
           (refine z00 (by rfl) ?_ ?_ (by rfl)) <;> (repeat' (first | (exact eqA) | (refine And.intro ?_ ?_) | ((fail_if_success (with_reducible (show _ = _))); (show _ = _)))) <;> rfl
         | true =>
           by_cases hbk : back = t
           ·obtain rfl : fl = true := by rw [hfl]; simp [hbk]
            repeat ((try conv => whnf); first | (with_reducible first | refine z0b (fun Qs hN hE hR => ?_) | refine z09 ?_ | refine z03 (fun Qb kN kE kX kR => ?_) | refine z05 ?_ | refine z06 ?_ | refine z0a ?_ | refine z07 ?_ | refine z08 ?_ | (show W _ _ _ (.cond _ _ _) _ _; refine z04 rfl ?_) | (refine hN _ ?_; try clear hN hE hR Qs; (try (conv => arg 6; dsimp only [ovl, List.set, List.map, ren0]))) | ((first | refine hE _ _ ?_ | refine hR _ ?_); try clear hN hE hR Qs) | ((first | refine kN _ ?_ | refine kE _ ?_ | refine kX _ _ rfl ?_ | refine kR _ ?_); try clear kN kE kX kR Qb)) | (refine ccA ([]) (cT) ?_) | (refine z1C hbk ?_) | (refine And.intro (by kernel_rfl) ?_) | (refine stpQ ?_))
            (refine z00 (by rfl) ?_ ?_ (by rfl)) <;> (repeat' (first | (exact eqA) | (refine And.intro ?_ ?_) | ((fail_if_success (with_reducible (show _ = _))); (show _ = _)))) <;> rfl
           ·obtain rfl : fl = false := by rw [hfl]; simp [hbk]
            repeat ((try conv => whnf); first | (with_reducible first | refine z0b (fun Qs hN hE hR => ?_) | refine z09 ?_ | refine z03 (fun Qb kN kE kX kR => ?_) | refine z05 ?_ | refine z06 ?_ | refine z0a ?_ | refine z07 ?_ | refine z08 ?_ | (show W _ _ _ (.cond _ _ _) _ _; refine z04 rfl ?_) | (refine hN _ ?_; try clear hN hE hR Qs; (try (conv => arg 6; dsimp only [ovl, List.set, List.map, ren0]))) | ((first | refine hE _ _ ?_ | refine hR _ ?_); try clear hN hE hR Qs) | ((first | refine kN _ ?_ | refine kE _ ?_ | refine kX _ _ rfl ?_ | refine kR _ ?_); try clear kN kE kX kR Qb)) | (refine ccA ([]) (cT) ?_) | (refine z30 hbk ?_) | (refine And.intro (by kernel_rfl) ?_) | (refine stpQ ?_))
            (refine z00 (by rfl) ?_ ?_ (by rfl)) <;> (repeat' (first | (exact eqA) | (refine And.intro ?_ ?_) | ((fail_if_success (with_reducible (show _ = _))); (show _ = _)))) <;> rfl
end
end Go.Proofs.YtgmbkbggnlponaaGreatDoor
namespace Go.Proofs.YtgmbkbggnlponaaGreatDoor
set_option linter.unusedVariables false
set_option linter.unusedSimpArgs false
set_option linter.unusedSectionVars false
open Go.RowKit Pl
theorem z7m {l : List Lf} (h : leavesOk l = true) : Sml l ∧ (l.length : Int) ≤ 100 := by
 obtain ⟨h1, h2, _⟩ := z0K h
 refine ⟨⟨by omega, fun i => ?_⟩, by omega⟩
 rcases Nat.lt_or_ge i l.length with hl | hl
 ·have := h2 _ (List.getElem_mem hl)
  have a := z1B this.1
  have b := z1J this.2
  rw [z6C hl]; omega
 ·simp [lfAt, List.getD, List.getElem?_eq_none hl]
theorem flatW : ∀ {l : List Lf}, (∀ x ∈ l, x.1.length ≤ 12 ∧ x.2.length ≤ 12) → (l.flatMap z1T).length ≤ 44 * l.length
 | [], _ => by simp
 | x :: l, h => by
   have ih := flatW (l := l) fun y hy => h y (by simp [hy])
   obtain ⟨h1, h2⟩ := h x (by simp)
   have a := z0D (l := x.1) (by omega)
   have b := z0D (l := x.2) (by omega)
   simp only [List.flatMap_cons, z1T, List.length_append, List.length_cons] at ih ⊢
   omega
theorem z2x {l : List Lf} {s : List Bs} (h : z0J l s 16 = true) : (z0l l s).length ≤ 20000 := by
 obtain ⟨h1, h2, h3, _, _⟩ := z1o.1 h
 obtain ⟨k1, k2, _⟩ := z0K h1
 have a := flatW fun x hx => ⟨z1B (k2 x hx).1, z1J (k2 x hx).2⟩
 have b := z0O (n := l.length) (by omega)
 have c := z0O (n := s.length) (by omega)
 have d := z1Q (l := s) fun y hy => by have := h3 y hy; omega
 simp only [z0l, z0z, List.length_append]
 omega
theorem z8i (t : Bs) (w : Int) : ∀ (n q : Nat) (b : Bool), (z36 t w n q b).1.length ≤ n
 | 0, q, b => Nat.le_refl _
 | n + 1, q, true => by simp [z36]
 | n + 1, q, false => by
   simp only [z36, List.length_cons]
   have := z8i t w n (z0M t q false w).2.1 (z0M t q false w).2.2
   omega
theorem zaO (t : Bs) : ∀ (n q : Nat) (b : Bool), (stS t n q b).1.length ≤ n ∧ ∀ y ∈ (stS t n q b).1, ∀ s, y.2 = some s → s.good
 | 0, q, b => ⟨Nat.le_refl _, fun y h => by cases h⟩
 | n + 1, q, true => ⟨by simp [stS], fun y h => by cases h⟩
 | n + 1, q, false => by
   have ih := zaO t n (z0M t (z1j t q false).2.1 (z1j t q false).2.2 321).2.1 (z0M t (z1j t q false).2.1 (z1j t q false).2.2 321).2.2
   simp only [stS]
   refine ⟨by simp only [List.length_cons]; omega, fun y hy s hs => ?_⟩
   rcases List.mem_cons.1 hy with rfl | hy
   ·exact (z55.1 hs).1
   ·exact ih.2 y hy s hs
theorem zaP {x : Wh} (g : WhGood x) : (z1V x).length ≤ 30000 := by
 have l0 := z2x g.pf
 have gt := g.tl
 have gs := g.sl
 have l1 := z0D (l := z0l x.B x.S) (by omega)
 have l2 := z0O (n := x.T.length) (by omega)
 have l3 := z1Q g.tw
 have a := z3g (h := x.hd) g.sg
 have b := z0D (l := z0P x.hd) (by have := z0N g.hd; omega)
 have c := z0N g.hd
 have l4 := z0D (l := z12 x.hd x.sg) (by omega)
 have l5 := z0O (n := x.st.length) (by omega)
 have l6 := z9d fun y hy => (g.sh y hy).2
 simp only [z1V, List.length_append]
 omega
theorem z9h (x : Wh) (g : WhGood x) : CT Tryz.prog 10 [] [.str (z1V x)] (.tup [.agg (whE x), .bool true]) [] := by
 have hlen := zaP g
 have l0 := z2x g.pf
 have hok := (z1o.1 g.pf)
 obtain ⟨hsml, hl2⟩ := z7m hok.1
 have cT := z3t x g hsml hl2 l0
 rw [← z9g] at cT
 have gt := g.tl
 have gs := g.sl
 have lsl : (z12 x.hd x.sg).length ≤ 400 := by
  have a := z3g (h := x.hd) g.sg
  have b := z0D (l := z0P x.hd) (by have := z0N g.hd; omega)
  have c := z0N g.hd
  omega
 have e0 : (z1V x).drop 0 = z0e (z0l x.B x.S) ++ (z0g x.T.length ++ (x.T.flatten ++ (z0e (z12 x.hd x.sg) ++ (z0g x.st.length ++ stL x.st)))) := rfl
 have l3 := z1Q g.tw
 have e1 := z0x rfl e0
 have e2 := z0x rfl e1
 have e3 := z0x l3 e2
 have e4 := z0x rfl e3
 have e5 := z0x rfl e4
 have r0 := z1n l0 e0 false
 have r1 := z2s (by omega) e1 false
 have r2 := z8h g.tw e2
 have r3 := z1n (by omega) e3 false
 have r4 := z2s (by omega) e4 false
 have r5 := zfA g.sh e5
 have hr : z1i (z12 x.hd x.sg) = some (x.hd, x.sg) := z3h.2 ⟨g.hd, g.sg, rfl⟩
 have kpf : CT Tryz.prog 46 [] [.str (z0l x.B x.S), .int .i64 16] (.tup [.agg [.ref 1, .ref 2], .bool true]) [.row 2 (lvE x.B), .row 1 (strE x.S)] := by
  have c := z5J (z0l x.B x.S) 16 (by omega)
  rw [zeN.2 ⟨g.pf, rfl⟩] at c
  exact c
 have m1 : min x.T.length 4 = x.T.length := by omega
 have m2 : min x.st.length 5 = x.st.length := by omega
 have c := z7l (z1V x) (by omega) _ _ false x.B x.S true _ _ false x.T _ false _ _ false _ _ false (stO x.st) _ false (z1V x) true r0 kpf r1 (by rw [m1]; exact r2) r3 r4 (by rw [m2]; exact r5) (by rw [hr]; exact cT) true ?_
 ·rw [hr, z9g] at c
  exact c
 ·rw [hr]
  have : okS true (stO x.st) = true := by
   simp only [okS, Bool.true_and, List.all_eq_true, stO, List.mem_map]
   rintro y ⟨z, _, rfl⟩
   rfl
  rw [this]
  simp
theorem z9i (t : Bs) (ht : t.length ≤ 100000000) (hn : ∀ x, WhGood x → t ≠ z1V x) : CT Tryz.prog 10 [] [.str t] (.tup [.agg wh0E, .bool false]) [] := by
 rcases hS0 : z1x t 0 false with ⟨pb, q1, b1⟩
 have l0 := z2t (t := t) (p := 0) (bad := false) (Nat.zero_le _)
 rw [hS0] at l0
 simp only at l0
 rcases hN1 : numS t q1 b1 with ⟨n, q2, b2⟩
 rcases hT : z36 t 16 (min n 4) q2 b2 with ⟨Tp, q3, b3⟩
 rcases hS3 : z1x t q3 b3 with ⟨sb, q4, b4⟩
 rcases hN4 : numS t q4 b4 with ⟨m, q5, b5⟩
 rcases hSt : stS t (min m 5) q5 b5 with ⟨st, q6, b6⟩
 have lT := z8i t 16 (min n 4) q2 b2
 rw [hT] at lT
 simp only at lT
 have lS := zaO t (min m 5) q5 b5
 rw [hSt] at lS
 simp only at lS
 have kpf := z5J pb 16 (by omega)
 obtain ⟨hB1, hB2, hB3, hB4⟩ : Sml (z4p (z1D pb 16)).1 ∧ ((z4p (z1D pb 16)).1.length : Int) ≤ 100 ∧ (z4p (z1D pb 16)).2.length ≤ 100 ∧ (z0J (z4p (z1D pb 16)).1 (z4p (z1D pb 16)).2 16 = true → (z0l (z4p (z1D pb 16)).1 (z4p (z1D pb 16)).2).length ≤ 20000) := by
  refine ⟨?_, ?_, ?_, fun h => z2x h⟩
  all_goals
   cases hr : z1D pb 16 with
   | none => first | (exact (z7m (l := []) rfl).1) | (exact (z7m (l := []) rfl).2) | (exact Nat.zero_le _)
   | some y =>
     obtain ⟨l, s⟩ := y
     have h1 := (zeN.1 hr).1
     have h2 := z1o.1 h1
     first | (exact (z7m h2.1).1) | (exact (z7m h2.1).2) | (show s.length ≤ 100; omega)
 generalize (z4p (z1D pb 16)).1 = B at *
 generalize (z4p (z1D pb 16)).2 = S at *
 generalize (z1D pb 16).isSome = one at *
 have hrg : ∀ y, z1i sb = some y → y.1.good ∧ y.2.good := fun y hy => by
  obtain ⟨h, s⟩ := y
  have := z3h.1 hy
  exact ⟨this.1, this.2.1⟩
 by_cases hg : z0J B S 16 = true ∧ (z1i sb).isSome = true ∧ Tp.length ≤ 2 ∧ (∀ y ∈ Tp, y.length = 16) ∧ st.length ≤ 3 ∧ Allg st
 ·obtain ⟨g1, g2, g3, g4, g5, g6⟩ := hg
  obtain ⟨l, rfl, g7⟩ := zcR g6
  cases hr : z1i sb with
  | none => rw [hr] at g2; cases g2
  | some y =>
    obtain ⟨h, s⟩ := y
    obtain ⟨k1, k2⟩ := hrg _ hr
    have gx : WhGood ⟨B, S, Tp, h, s, l⟩ := ⟨g1, g3, g4, k1, k2, by simpa [stO] using g5, g7⟩
    have cT := z3t ⟨B, S, Tp, h, s, l⟩ gx hB1 hB2 (hB4 g1)
    rw [← z9g] at cT
    have hne : z1V ⟨B, S, Tp, h, s, l⟩ ≠ t := fun e => hn _ gx e.symm
    exact z7l t ht pb q1 b1 B S one n q2 b2 Tp q3 b3 sb q4 b4 m q5 b5 (stO l) q6 b6 (z1V ⟨B, S, Tp, h, s, l⟩) true hS0 kpf hN1 hT hS3 hN4 hSt (by rw [hr]; exact cT) false (by rw [decide_eq_false hne, Bool.and_false])
 ·have cT := z58 B S Tp (z1i sb) st hB1 hB2 hB3 (by omega) (by omega) hrg lS.2 hB4 hg
  exact z7l t ht pb q1 b1 B S one n q2 b2 Tp q3 b3 sb q4 b4 m q5 b5 st q6 b6 [] false hS0 kpf hN1 hT hS3 hN4 hSt cT false (by rw [Bool.and_false, Bool.false_and])
end Go.Proofs.YtgmbkbggnlponaaGreatDoor
