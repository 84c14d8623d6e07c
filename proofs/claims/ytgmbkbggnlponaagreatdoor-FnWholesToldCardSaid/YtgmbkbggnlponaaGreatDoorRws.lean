/- Functions by content: the reference writes complete proofs of any content. -/
import Derived.Test.YtgmbkbggnlponaaGreatDoorRwp
import Derived.Test.YtgmbkbggnlponaaGreatDoorCsa
import Derived.Test.YtgmbkbggnlponaaGreatDoorGR
import Derived.Test.YtgmbkbggnlponaaGreatDoorVe
namespace Go.Proofs.YtgmbkbggnlponaaGreatDoor
set_option linter.unusedVariables false
set_option linter.unusedSimpArgs false
set_option linter.unusedSectionVars false
open Go.RowKit Pl
def sgO : Option Sg → List T
 | some s => sgE s
 | none => [.int .i64 0, .sl 1 [], .sl 1 [], .sl 1 []]
def sgT : Option Sg → Bs
 | some s => sigB s
 | none => []
def stX (l : List (Nat × Option Sg)) : List (List T) := l.map fun y => T.int .i64 (y.1 : Int) :: sgO y.2
theorem zfz (l : List (Nat × Option Sg)) : (stX l).length = l.length := by simp [stX]
theorem zig {l : List (Nat × Option Sg)} {k : Nat} (h : k < l.length) : (stX l)[k]? = some (T.int .i64 (l[k].1 : Int) :: sgO l[k].2) := by simp [stX, List.getElem?_eq_getElem h]
theorem zih (l : List (Nat × Option Sg)) (y : Nat × Option Sg) : stX (l ++ [y]) = stX l ++ [T.int .i64 (y.1 : Int) :: sgO y.2] := by simp [stX]
def stO (l : List (Nat × Sg)) : List (Nat × Option Sg) := l.map fun y => (y.1, some y.2)
theorem zii (l : List (Nat × Sg)) : stX (stO l) = stE l := by simp only [stX, stO, stE, List.map_map]; rfl
def Allg (l : List (Nat × Option Sg)) : Prop := ∀ y ∈ l, y.1 ≤ 2 ∧ ∃ s, y.2 = some s ∧ s.good
theorem zcR : ∀ {l : List (Nat × Option Sg)}, Allg l → ∃ g, l = stO g ∧ ∀ y ∈ g, y.1 ≤ 2 ∧ y.2.good
 | [], _ => ⟨[], rfl, fun y h => by cases h⟩
 | y :: l, h => by
   obtain ⟨g, e, q⟩ := zcR (l := l) fun z hz => h z (by simp [hz])
   obtain ⟨h1, s, h2, h3⟩ := h y (by simp)
   obtain ⟨a, b⟩ := y
   simp only at h1 h2
   subst h2
   refine ⟨(a, s) :: g, by rw [e]; rfl, fun z hz => ?_⟩
   rcases List.mem_cons.1 hz with rfl | hz
   ·exact ⟨h1, h3⟩
   ·exact q z hz
instance (l : List (Nat × Option Sg)) : Decidable (Allg l) := by
 unfold Allg
 have : ∀ y : Nat × Option Sg, Decidable (y.1 ≤ 2 ∧ ∃ s, y.2 = some s ∧ s.good) := fun y => by
  obtain ⟨a, b⟩ := y
  cases b with
  | none => exact isFalse fun h => by obtain ⟨_, s, h, _⟩ := h; cases h
  | some s =>
    have d : Decidable s.good := by unfold Sg.good; exact inferInstance
    cases d with
    | isTrue g => exact if h : a ≤ 2 then isTrue ⟨h, s, rfl, g⟩ else isFalse fun k => h k.1
    | isFalse g => exact isFalse fun h => by obtain ⟨_, x, h, k⟩ := h; injection h with h; subst h; exact g k
 exact List.decidableBAll _ _
section
attribute [local irreducible] z0t z0u z0y AnsP LeP W CvE
theorem zij (o : Option Sg) (h : ∀ s, o = some s → s.good) : CT Tryz.prog 93 [] [.agg (sgO o)] (.tup [.str (sgT o), .bool o.isSome]) [] := by
 cases o with
 | none => exact z7g 0 [] [] [] (by simp) (by simp) (by simp) rfl
 | some s => exact z3s s (h s rfl)
theorem u8_w {a : Nat} (h : a ≤ 2) : IntKind.u8.wrap ((a : Nat) : Int) = ((UInt8.ofNat a).toNat : Int) := by
 rcases (show a = 0 ∨ a = 1 ∨ a = 2 by omega) with rfl | rfl | rfl <;> rfl
set_option maxRecDepth 100000 in
set_option maxHeartbeats 8000000 in
theorem z3t (x : Wh) (g : WhGood x) (hsml : Sml x.B) (hl2 : (x.B.length : Int) ≤ 100) (hpl : (z0l x.B x.S).length ≤ 20000) : CT Tryz.prog 34 [] [.agg (whE x)] (.tup [.str (z1V x), .bool true]) [] := by
 have gsl := g.sl
 have gtl := g.tl
 have gtw := g.tw
 have gsh : ∀ i (h : i < x.st.length), x.st[i].1 ≤ 2 ∧ x.st[i].2.good := fun i h => g.sh _ (List.getElem_mem h)
 have gS : x.S.length ≤ 8 := (z1o.1 g.pf).2.1
 have cP := z3M x.B x.S 16 hsml hl2 (by omega)
 rw [g.pf] at cP
 have cS := z3X x.hd x.sg g.hd g.sg
 have lsl : (z12 x.hd x.sg).length ≤ 400 := by
  have a := z3g (h := x.hd) g.sg
  have b := z0D (l := z0P x.hd) (by have := z0N g.hd; omega)
  have c := z0N g.hd
  omega
 have cW := z83 x.T 16 (by omega)
 rw [show Pl.wideB x.T 16 = true by
  simp only [Pl.wideB, Bool.and_eq_true, List.all_eq_true, decide_eq_true_eq]
  exact ⟨fun y hy => by have := gtw y hy; omega, by decide⟩] at cW
 have hT : ∀ i (h : i < x.T.length), x.T[i].length = 16 := fun i h => gtw _ (List.getElem_mem h)
 have v1 := z2Z (z0l x.B x.S).length (by omega)
 have v2 := z2Z x.T.length (by omega)
 have v3 := z2Z (z12 x.hd x.sg).length (by omega)
 have v4 := z2Z x.st.length (by omega)
 have k1 := z0O (n := (z0l x.B x.S).length) (by omega)
 have k2 := z0O (n := x.T.length) (by omega)
 have k3 := z0O (n := (z12 x.hd x.sg).length) (by omega)
 have k4 := z0O (n := x.st.length) (by omega)
 have hTl := z0c x.T
 have hSl := z3V x.st
 have hfl := z1Q gtw
 have htk : ∀ i, (x.T.take i).flatten.length ≤ 32 := fun i => by
  have := z1Q (l := x.T.take i) fun y hy => gtw y (List.mem_of_mem_take hy)
  rw [List.length_take] at this
  omega
 have hsk : ∀ i, (stL (x.st.take i)).length ≤ 966 := fun i => by
  have := z9d (l := x.st.take i) fun y hy => (g.sh y (List.mem_of_mem_take hy)).2
  rw [List.length_take] at this
  omega
 have eW : z1V x = ((((z0g (z0l x.B x.S).length ++ z0l x.B x.S) ++ z0g x.T.length) ++ x.T.flatten) ++ z0g (z12 x.hd x.sg).length ++ z12 x.hd x.sg ++ z0g x.st.length) ++ stL x.st := by
  simp [z1V, z0e]
 rw [eW]
 clear eW g
 obtain ⟨B, S, Tp, hd, sg, st⟩ := x
 unfold whE
 dsimp only at *
 obtain ⟨ho, ep, ro, pr⟩ := hd
 obtain ⟨sa, so, ss, si⟩ := sg
 generalize z12 ⟨ho, ep, ro, pr⟩ ⟨sa, so, ss, si⟩ = SB at *
 unfold hdE sgE at *
 dsimp only at *
 generalize hPT : z0l B S = PT at *
 generalize z0g PT.length = V1 at *
 generalize z0g Tp.length = V2 at *
 generalize z0g SB.length = V3 at *
 generalize z0g st.length = V4 at *
 change CT _ _ _ _ (.tup [.str PT, .bool true]) _ at cP
 simp only [List.cons_append, List.nil_append] at *
 have f2 : ¬ (Tp.length : Int) > 2 := by omega
 have f3 : ¬ (st.length : Int) > 3 := by omega
 have hpre : ((V1 ++ PT) ++ V2).length ≤ 20020 := by simp only [List.length_append]; omega
 refine z01 z0d 1 rfl Tryz.func34 rfl rfl rfl ?_
 conv => arg 6; whnf
 repeat ((try conv => whnf); first | (with_reducible first | refine z0b (fun Qs hN hE hR => ?_) | refine z09 ?_ | refine z03 (fun Qb kN kE kX kR => ?_) | refine z05 ?_ | refine z06 ?_ | refine z0a ?_ | refine z07 ?_ | refine z08 ?_ | (show W _ _ _ (.cond _ _ _) _ _; refine z04 rfl ?_) | (refine hN _ ?_; try clear hN hE hR Qs; (try (conv => arg 6; dsimp only [ovl, List.set, List.map, ren0]))) | ((first | refine hE _ _ ?_ | refine hR _ ?_); try clear hN hE hR Qs) | ((first | refine kN _ ?_ | refine kE _ ?_ | refine kX _ _ rfl ?_ | refine kR _ ?_); try clear kN kE kX kR Qb)) | (refine ccA ([]) (cP) ?_) | (refine ccA ([]) (cS) ?_) | (refine ccA ([]) (cW) ?_) | (refine Exists.intro Tp.length (And.intro hTl ?_)) | (refine Exists.intro st.length (And.intro hSl ?_)) | (refine z0k f2 ?_) | (refine z0k f3 ?_) | (refine ccA ([]) (v1) ?_) | (refine ccA ([]) (v2) ?_) | (refine And.intro (by simp only [List.length_append]; omega) ?_) | (refine And.intro (by kernel_rfl) ?_) | (refine stpQ ?_))
 refine z0h 0 ⟨[(1, .ptr 1 0 0), (6, .str SB), (8, .str (((V1 ++ PT) ++ V2) ++ Tp.flatten))], [(1, some (.box [.sl 2 (lvE B), .sl 1 (strE S), .sl 1 (strE Tp), .int .i64 (ho : Int), .int .i64 (ep : Int), .str ro, .str pr, .int .i64 (sa : Int), .sl 1 (strE so), .sl 1 (strE ss), .sl 1 (strE si), .sl 5 (stE st)]))], 2⟩ Nat (fun i => ⟨[(1, .ptr 1 0 0), (6, .str SB), (8, .str (((V1 ++ PT) ++ V2) ++ (Tp.take i).flatten)), (9, .int .i64 (i : Int))], [(1, some (.box [.sl 2 (lvE B), .sl 1 (strE S), .sl 1 (strE Tp), .int .i64 (ho : Int), .int .i64 (ep : Int), .str ro, .str pr, .int .i64 (sa : Int), .sl 1 (strE so), .sl 1 (strE ss), .sl 1 (strE si), .sl 5 (stE st)]))], 2⟩) (fun i => i ≤ Tp.length) (fun i => Tp.length - i) 0 (Nat.zero_le _) ?_ ?_ ?_
 ·(refine z02 (by rfl) ?_ ?_) <;> (repeat' (first | (exact eqA) | (refine And.intro ?_ ?_) | ((fail_if_success (with_reducible (show _ = _))); (show _ = _)))) <;> first | rfl | (simp; done)
 ·intro i hi
  by_cases hlt : i < Tp.length
  ·have f1 : (i : Int) < ((Tp.length : Nat) : Int) := by omega
   have gi : (strE Tp)[i]? = some [.str Tp[i]] := by simp [strE, List.getElem?_eq_getElem hlt]
   have h1 := hT i hlt
   have h2 := htk i
   have hnx : (Tp.take (i + 1)).flatten = (Tp.take i).flatten ++ Tp[i] := by rw [List.take_succ_eq_append_getElem hlt, List.flatten_append, List.flatten_cons, List.flatten_nil, List.append_nil]
   generalize (Tp.take i).flatten = u at *
   generalize Tp[i] = y at *
   generalize (V1 ++ PT) ++ V2 = pre at *
   repeat ((try conv => whnf); first | (with_reducible first | refine z0b (fun Qs hN hE hR => ?_) | refine z09 ?_ | refine z03 (fun Qb kN kE kX kR => ?_) | refine z05 ?_ | refine z06 ?_ | refine z0a ?_ | refine z07 ?_ | refine z08 ?_ | (show W _ _ _ (.cond _ _ _) _ _; refine z04 rfl ?_) | (refine hN _ ?_; try clear hN hE hR Qs; (try (conv => arg 6; dsimp only [ovl, List.set, List.map, ren0]))) | ((first | refine hE _ _ ?_ | refine hR _ ?_); try clear hN hE hR Qs) | ((first | refine kN _ ?_ | refine kE _ ?_ | refine kX _ _ rfl ?_ | refine kR _ ?_); try clear kN kE kX kR Qb)) | (refine Exists.intro Tp.length (And.intro hTl ?_)) | (refine z0i f1 ?_) | (refine i_at gi ?_) | (refine And.intro (by simp only [List.length_append]; omega) ?_) | (refine And.intro (by kernel_rfl) ?_) | (refine stpQ ?_))
   refine ⟨i + 1, hlt, by omega, ?_⟩
   rw [hnx]
   (refine z02 (by rfl) ?_ ?_) <;> (repeat' (first | (exact eqA) | (refine And.intro ?_ ?_) | ((fail_if_success (with_reducible (show _ = _))); (show _ = _)))) <;> first | rfl | (rw [List.append_assoc])
  ·have hie : i = Tp.length := by omega
   subst hie
   have f1 : ¬ ((Tp.length : Nat) : Int) < ((Tp.length : Nat) : Int) := by omega
   repeat ((try conv => whnf); first | (with_reducible first | refine z0b (fun Qs hN hE hR => ?_) | refine z09 ?_ | refine z03 (fun Qb kN kE kX kR => ?_) | refine z05 ?_ | refine z06 ?_ | refine z0a ?_ | refine z07 ?_ | refine z08 ?_ | (show W _ _ _ (.cond _ _ _) _ _; refine z04 rfl ?_) | (refine hN _ ?_; try clear hN hE hR Qs; (try (conv => arg 6; dsimp only [ovl, List.set, List.map, ren0]))) | ((first | refine hE _ _ ?_ | refine hR _ ?_); try clear hN hE hR Qs) | ((first | refine kN _ ?_ | refine kE _ ?_ | refine kX _ _ rfl ?_ | refine kR _ ?_); try clear kN kE kX kR Qb)) | (refine Exists.intro Tp.length (And.intro hTl ?_)) | (refine z0k f1 ?_) | (refine stpQ ?_))
   rw [List.take_length]
   (refine z02 (by rfl) ?_ ?_) <;> (repeat' (first | (exact eqA) | (refine And.intro ?_ ?_) | ((fail_if_success (with_reducible (show _ = _))); (show _ = _)))) <;> rfl
 ·have hTpl : Tp.flatten.length ≤ 32 := by omega
  generalize (V1 ++ PT) ++ V2 = pre at *
  generalize Tp.flatten = TF at *
  repeat ((try conv => whnf); first | (with_reducible first | refine z0b (fun Qs hN hE hR => ?_) | refine z09 ?_ | refine z03 (fun Qb kN kE kX kR => ?_) | refine z05 ?_ | refine z06 ?_ | refine z0a ?_ | refine z07 ?_ | refine z08 ?_ | (show W _ _ _ (.cond _ _ _) _ _; refine z04 rfl ?_) | (refine hN _ ?_; try clear hN hE hR Qs; (try (conv => arg 6; dsimp only [ovl, List.set, List.map, ren0]))) | ((first | refine hE _ _ ?_ | refine hR _ ?_); try clear hN hE hR Qs) | ((first | refine kN _ ?_ | refine kE _ ?_ | refine kX _ _ rfl ?_ | refine kR _ ?_); try clear kN kE kX kR Qb)) | (refine Exists.intro st.length (And.intro hSl ?_)) | (refine ccA ([]) (v3) ?_) | (refine ccA ([]) (v4) ?_) | (refine And.intro (by simp only [List.length_append]; omega) ?_) | (refine And.intro (by kernel_rfl) ?_) | (refine stpQ ?_))
  have hpre2 : (pre ++ TF ++ V3 ++ SB ++ V4).length ≤ 20500 := by simp only [List.length_append]; omega
  refine z0h 2 ⟨[(8, .str ((pre ++ TF ++ V3 ++ SB ++ V4) ++ stL st))], [], 1⟩ Nat (fun i => ⟨[(1, .ptr 1 0 0), (8, .str ((pre ++ TF ++ V3 ++ SB ++ V4) ++ stL (st.take i))), (10, .int .i64 (i : Int))], [(1, some (.box [.sl 2 (lvE B), .sl 1 (strE S), .sl 1 (strE Tp), .int .i64 (ho : Int), .int .i64 (ep : Int), .str ro, .str pr, .int .i64 (sa : Int), .sl 1 (strE so), .sl 1 (strE ss), .sl 1 (strE si), .sl 5 (stE st)]))], 2⟩) (fun i => i ≤ st.length) (fun i => st.length - i) 0 (Nat.zero_le _) ?_ ?_ ?_
  ·(refine z02 (by rfl) ?_ ?_) <;> (repeat' (first | (exact eqA) | (refine And.intro ?_ ?_) | ((fail_if_success (with_reducible (show _ = _))); (show _ = _)))) <;> first | rfl | (simp [stL]; done)
  ·intro i hi
   by_cases hlt : i < st.length
   ·have f1 : (i : Int) < ((st.length : Nat) : Int) := by omega
    have gi : (stE st)[i]? = some (T.int .i64 (st[i].1 : Int) :: sgE st[i].2) := by simp [stE, List.getElem?_eq_getElem hlt]
    obtain ⟨h1, h2⟩ := gsh i hlt
    have h3 := hsk i
    have cG := z3s st[i].2 h2
    have cI := z7y (x := (st[i].1 : Int)) (lo := 0) (hi := 2) (by omega)
    have h4 := z1Y h2
    have e8 := u8_w h1
    have hnx : stL (st.take (i + 1)) = stL (st.take i) ++ ([UInt8.ofNat st[i].1] ++ sigB st[i].2) := by rw [List.take_succ_eq_append_getElem hlt, zbM]; show _ ++ (UInt8.ofNat st[i].1 :: (sigB st[i].2 ++ [])) = _; rw [List.append_nil]; rfl
    generalize st[i].1 = a at *
    generalize st[i].2 = s at *
    generalize sigB s = sgt at *
    obtain ⟨s0, s1, s2, s3⟩ := s
    unfold sgE at gi cG
    dsimp only at gi cG
    generalize stL (st.take i) = u at *
    generalize pre ++ TF ++ V3 ++ SB ++ V4 = pre2 at *
    repeat ((try conv => whnf); first | (with_reducible first | refine z0b (fun Qs hN hE hR => ?_) | refine z09 ?_ | refine z03 (fun Qb kN kE kX kR => ?_) | refine z05 ?_ | refine z06 ?_ | refine z0a ?_ | refine z07 ?_ | refine z08 ?_ | (show W _ _ _ (.cond _ _ _) _ _; refine z04 rfl ?_) | (refine hN _ ?_; try clear hN hE hR Qs; (try (conv => arg 6; dsimp only [ovl, List.set, List.map, ren0]))) | ((first | refine hE _ _ ?_ | refine hR _ ?_); try clear hN hE hR Qs) | ((first | refine kN _ ?_ | refine kE _ ?_ | refine kX _ _ rfl ?_ | refine kR _ ?_); try clear kN kE kX kR Qb)) | (refine Exists.intro st.length (And.intro hSl ?_)) | (refine z0i f1 ?_) | (refine i_at gi ?_) | (refine ccA ([]) (cG) ?_) | (refine ccA ([]) (cI) ?_) | (refine Exists.intro _ (And.intro e8.symm ?_)) | (refine Exists.intro [UInt8.ofNat a] (And.intro rfl ?_)) | (refine And.intro (by simp only [List.length_append, List.length_cons, List.length_nil]; omega) ?_) | (refine And.intro (by kernel_rfl) ?_) | (refine stpQ ?_))
    refine ⟨i + 1, hlt, by omega, ?_⟩
    rw [hnx]
    (refine z02 (by rfl) ?_ ?_) <;> (repeat' (first | (exact eqA) | (refine And.intro ?_ ?_) | ((fail_if_success (with_reducible (show _ = _))); (show _ = _)))) <;> first | rfl | (simp only [List.append_assoc])
   ·have hie : i = st.length := by omega
    subst hie
    have f1 : ¬ ((st.length : Nat) : Int) < ((st.length : Nat) : Int) := by omega
    repeat ((try conv => whnf); first | (with_reducible first | refine z0b (fun Qs hN hE hR => ?_) | refine z09 ?_ | refine z03 (fun Qb kN kE kX kR => ?_) | refine z05 ?_ | refine z06 ?_ | refine z0a ?_ | refine z07 ?_ | refine z08 ?_ | (show W _ _ _ (.cond _ _ _) _ _; refine z04 rfl ?_) | (refine hN _ ?_; try clear hN hE hR Qs; (try (conv => arg 6; dsimp only [ovl, List.set, List.map, ren0]))) | ((first | refine hE _ _ ?_ | refine hR _ ?_); try clear hN hE hR Qs) | ((first | refine kN _ ?_ | refine kE _ ?_ | refine kX _ _ rfl ?_ | refine kR _ ?_); try clear kN kE kX kR Qb)) | (refine Exists.intro st.length (And.intro hSl ?_)) | (refine z0k f1 ?_) | (refine stpQ ?_))
    rw [List.take_length]
    (refine z02 (by rfl) ?_ ?_) <;> (repeat' (first | (exact eqA) | (refine And.intro ?_ ?_) | ((fail_if_success (with_reducible (show _ = _))); (show _ = _)))) <;> rfl
  ·repeat ((try conv => whnf); first | (with_reducible first | refine z0b (fun Qs hN hE hR => ?_) | refine z09 ?_ | refine z03 (fun Qb kN kE kX kR => ?_) | refine z05 ?_ | refine z06 ?_ | refine z0a ?_ | refine z07 ?_ | refine z08 ?_ | (show W _ _ _ (.cond _ _ _) _ _; refine z04 rfl ?_) | (refine hN _ ?_; try clear hN hE hR Qs; (try (conv => arg 6; dsimp only [ovl, List.set, List.map, ren0]))) | ((first | refine hE _ _ ?_ | refine hR _ ?_); try clear hN hE hR Qs) | ((first | refine kN _ ?_ | refine kE _ ?_ | refine kX _ _ rfl ?_ | refine kR _ ?_); try clear kN kE kX kR Qb)) | (refine stpQ ?_))
   (refine z00 (by rfl) ?_ ?_ (by rfl)) <;> (repeat' (first | (exact eqA) | (refine And.intro ?_ ?_) | ((fail_if_success (with_reducible (show _ = _))); (show _ = _)))) <;> rfl
end
end Go.Proofs.YtgmbkbggnlponaaGreatDoor
