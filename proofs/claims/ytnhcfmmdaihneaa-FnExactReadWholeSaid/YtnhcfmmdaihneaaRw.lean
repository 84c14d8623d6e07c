/- Functions by content: the reference writes complete proofs of any content. Functions by content: the reference refuses to write complete proofs of other content. Functions by content: the reference reads complete proofs. -/
import Derived.Test.YtnhcfmmdaihneaaPx
import Derived.Test.YtnhcfmmdaihneaaCsa
import Derived.Test.YtnhcfmmdaihneaaGR
import Derived.Test.YtnhcfmmdaihneaaVe
namespace Go.Proofs.Ytnhcfmmdaihneaa
set_option linter.unusedVariables false
set_option linter.unusedSimpArgs false
set_option linter.unusedSectionVars false
open Go.RowKit Pl
def sgO : Option Sg → List T
 | some s => sgE s
 | none => [.int .i64 0, .sl 1 [], .sl 1 [], .sl 1 []]
def sgT : Option Sg → Bs
 | some s => sigB s
 | none => []
def stX (l : List (Nat × Option Sg)) : List (List T) := l.map fun y => T.int .i64 (y.1 : Int) :: sgO y.2
theorem zaV (l : List (Nat × Option Sg)) : (stX l).length = l.length := by simp [stX]
theorem zda {l : List (Nat × Option Sg)} {k : Nat} (h : k < l.length) : (stX l)[k]? = some (T.int .i64 (l[k].1 : Int) :: sgO l[k].2) := by simp [stX, List.getElem?_eq_getElem h]
theorem zdb (l : List (Nat × Option Sg)) (y : Nat × Option Sg) : stX (l ++ [y]) = stX l ++ [T.int .i64 (y.1 : Int) :: sgO y.2] := by simp [stX]
def stO (l : List (Nat × Sg)) : List (Nat × Option Sg) := l.map fun y => (y.1, some y.2)
theorem zdc (l : List (Nat × Sg)) : stX (stO l) = stE l := by simp only [stX, stO, stE, List.map_map]; rfl
def Allg (l : List (Nat × Option Sg)) : Prop := ∀ y ∈ l, y.1 ≤ 2 ∧ ∃ s, y.2 = some s ∧ s.good
theorem z8Z : ∀ {l : List (Nat × Option Sg)}, Allg l → ∃ g, l = stO g ∧ ∀ y ∈ g, y.1 ≤ 2 ∧ y.2.good
 | [], _ => ⟨[], rfl, fun y h => by cases h⟩
 | y :: l, h => by
   obtain ⟨g, e, q⟩ := z8Z (l := l) fun z hz => h z (by simp [hz])
   obtain ⟨h1, s, h2, h3⟩ := h y (by simp)
   obtain ⟨a, b⟩ := y
   simp only at h1 h2
   subst h2
   refine ⟨(a, s) :: g, by rw [e]; rfl, fun z hz => ?_⟩
   rcases List.mem_cons.1 hz with rfl | hz
   ·exact ⟨h1, h3⟩
   ·exact q z hz
instance (l : List (Nat × Option Sg)) : Decidable (Allg l) := by
 unfold Allg
 have : ∀ y : Nat × Option Sg, Decidable (y.1 ≤ 2 ∧ ∃ s, y.2 = some s ∧ s.good) := fun y => by
  obtain ⟨a, b⟩ := y
  cases b with
  | none => exact isFalse fun h => by obtain ⟨_, s, h, _⟩ := h; cases h
  | some s =>
    have d : Decidable s.good := by unfold Sg.good; exact inferInstance
    cases d with
    | isTrue g => exact if h : a ≤ 2 then isTrue ⟨h, s, rfl, g⟩ else isFalse fun k => h k.1
    | isFalse g => exact isFalse fun h => by obtain ⟨_, x, h, k⟩ := h; injection h with h; subst h; exact g k
 exact List.decidableBAll _ _
section
attribute [local irreducible] z0m z0o z0s AnsP LeP W CvE
theorem zdd (o : Option Sg) (h : ∀ s, o = some s → s.good) : CT Try.prog 48 [] [.agg (sgO o)] (.tup [.str (sgT o), .bool o.isSome]) [] := by
 cases o with
 | none => exact z4M 0 [] [] [] (by simp) (by simp) (by simp) rfl
 | some s => exact z2q s (h s rfl)
theorem u8_w {a : Nat} (h : a ≤ 2) : IntKind.u8.wrap ((a : Nat) : Int) = ((UInt8.ofNat a).toNat : Int) := by
 rcases (show a = 0 ∨ a = 1 ∨ a = 2 by omega) with rfl | rfl | rfl <;> rfl
set_option maxRecDepth 100000 in
set_option maxHeartbeats 8000000 in
theorem z3y (x : Wh) (g : WhGood x) (hsml : Sml x.B) (hl2 : (x.B.length : Int) ≤ 100) (hpl : (z0f x.B x.S).length ≤ 20000) : CT Try.prog 16 [] [.agg (whE x)] (.tup [.str (z1h x), .bool true]) [] := by
 have gsl := g.sl
 have gtl := g.tl
 have gtw := g.tw
 have gsh : ∀ i (h : i < x.st.length), x.st[i].1 ≤ 2 ∧ x.st[i].2.good := fun i h => g.sh _ (List.getElem_mem h)
 have gS : x.S.length ≤ 8 := (z19.1 g.pf).2.1
 have cP := z2F x.B x.S 16 hsml hl2 (by omega)
 rw [g.pf] at cP
 have cS := z2H x.hd x.sg g.hd g.sg
 have lsl : (z0F x.hd x.sg).length ≤ 400 := by
  have a := z2c (h := x.hd) g.sg
  have b := z0x (l := z0E x.hd) (by have := z0B g.hd; omega)
  have c := z0B g.hd
  omega
 have cW := zaH x.T 16 (by omega)
 rw [show Pl.wideB x.T 16 = true by
  simp only [Pl.wideB, Bool.and_eq_true, List.all_eq_true, decide_eq_true_eq]
  exact ⟨fun y hy => by have := gtw y hy; omega, by decide⟩] at cW
 have hT : ∀ i (h : i < x.T.length), x.T[i].length = 16 := fun i h => gtw _ (List.getElem_mem h)
 have v1 := z29 (z0f x.B x.S).length (by omega)
 have v2 := z29 x.T.length (by omega)
 have v3 := z29 (z0F x.hd x.sg).length (by omega)
 have v4 := z29 x.st.length (by omega)
 have k1 := z0D (n := (z0f x.B x.S).length) (by omega)
 have k2 := z0D (n := x.T.length) (by omega)
 have k3 := z0D (n := (z0F x.hd x.sg).length) (by omega)
 have k4 := z0D (n := x.st.length) (by omega)
 have hTl := z0q x.T
 have hSl := z7Y x.st
 have hfl := z1g gtw
 have htk : ∀ i, (x.T.take i).flatten.length ≤ 32 := fun i => by
  have := z1g (l := x.T.take i) fun y hy => gtw y (List.mem_of_mem_take hy)
  rw [List.length_take] at this
  omega
 have hsk : ∀ i, (stL (x.st.take i)).length ≤ 966 := fun i => by
  have := z66 (l := x.st.take i) fun y hy => (g.sh y (List.mem_of_mem_take hy)).2
  rw [List.length_take] at this
  omega
 have eW : z1h x = ((((z0d (z0f x.B x.S).length ++ z0f x.B x.S) ++ z0d x.T.length) ++ x.T.flatten) ++ z0d (z0F x.hd x.sg).length ++ z0F x.hd x.sg ++ z0d x.st.length) ++ stL x.st := by
  simp [z1h, z09]
 rw [eW]
 clear eW g
 obtain ⟨B, S, Tp, hd, sg, st⟩ := x
 unfold whE
 dsimp only at *
 obtain ⟨ho, ep, ro, pr⟩ := hd
 obtain ⟨sa, so, ss, si⟩ := sg
 generalize z0F ⟨ho, ep, ro, pr⟩ ⟨sa, so, ss, si⟩ = SB at *
 unfold hdE sgE at *
 dsimp only at *
 generalize hPT : z0f B S = PT at *
 generalize z0d PT.length = V1 at *
 generalize z0d Tp.length = V2 at *
 generalize z0d SB.length = V3 at *
 generalize z0d st.length = V4 at *
 change CT _ _ _ _ (.tup [.str PT, .bool true]) _ at cP
 simp only [List.cons_append, List.nil_append] at *
 have f2 : ¬ (Tp.length : Int) > 2 := by omega
 have f3 : ¬ (st.length : Int) > 3 := by omega
 have hpre : ((V1 ++ PT) ++ V2).length ≤ 20020 := by simp only [List.length_append]; omega
 refine z01 z0y 1 rfl Try.func16 rfl rfl rfl ?_
 conv => arg 6; whnf
 repeat ((try conv => whnf); first | (with_reducible first | refine z0c (fun Qs hN hE hR => ?_) | refine z0a ?_ | refine z02 (fun Qb kN kE kX kR => ?_) | refine z04 ?_ | refine z05 ?_ | refine z0b ?_ | refine z06 ?_ | refine z07 ?_ | (show W _ _ _ (.cond _ _ _) _ _; refine z03 rfl ?_) | (refine hN _ ?_; try clear hN hE hR Qs; (try (conv => arg 6; dsimp only [ovl, List.set, List.map, ren0]))) | ((first | refine hE _ _ ?_ | refine hR _ ?_); try clear hN hE hR Qs) | ((first | refine kN _ ?_ | refine kE _ ?_ | refine kX _ _ rfl ?_ | refine kR _ ?_); try clear kN kE kX kR Qb)) | (refine ccA ([]) (cP) ?_) | (refine ccA ([]) (cS) ?_) | (refine ccA ([]) (cW) ?_) | (refine Exists.intro Tp.length (And.intro hTl ?_)) | (refine Exists.intro st.length (And.intro hSl ?_)) | (refine z0z f2 ?_) | (refine z0z f3 ?_) | (refine ccA ([]) (v1) ?_) | (refine ccA ([]) (v2) ?_) | (refine And.intro (by simp only [List.length_append]; omega) ?_) | (refine And.intro (by kernel_rfl) ?_) | (refine stpQ ?_))
 refine z1r 0 ⟨[(1, .ptr 1 0 0), (6, .str SB), (8, .str (((V1 ++ PT) ++ V2) ++ Tp.flatten))], [(1, some (.box [.sl 2 (lvE B), .sl 1 (strE S), .sl 1 (strE Tp), .int .i64 (ho : Int), .int .i64 (ep : Int), .str ro, .str pr, .int .i64 (sa : Int), .sl 1 (strE so), .sl 1 (strE ss), .sl 1 (strE si), .sl 5 (stE st)]))], 2⟩ Nat (fun i => ⟨[(1, .ptr 1 0 0), (6, .str SB), (8, .str (((V1 ++ PT) ++ V2) ++ (Tp.take i).flatten)), (9, .int .i64 (i : Int))], [(1, some (.box [.sl 2 (lvE B), .sl 1 (strE S), .sl 1 (strE Tp), .int .i64 (ho : Int), .int .i64 (ep : Int), .str ro, .str pr, .int .i64 (sa : Int), .sl 1 (strE so), .sl 1 (strE ss), .sl 1 (strE si), .sl 5 (stE st)]))], 2⟩) (fun i => i ≤ Tp.length) (fun i => Tp.length - i) 0 (Nat.zero_le _) ?_ ?_ ?_
 ·(refine z08 (by rfl) ?_ ?_) <;> (repeat' (first | (exact eqA) | (refine shE ?_) | (refine And.intro ?_ ?_))) <;> first | rfl | (simp; done)
 ·intro i hi
  by_cases hlt : i < Tp.length
  ·have f1 : (i : Int) < ((Tp.length : Nat) : Int) := by omega
   have gi : (strE Tp)[i]? = some [.str Tp[i]] := by simp [strE, List.getElem?_eq_getElem hlt]
   have h1 := hT i hlt
   have h2 := htk i
   have hnx : (Tp.take (i + 1)).flatten = (Tp.take i).flatten ++ Tp[i] := by rw [List.take_succ_eq_append_getElem hlt, List.flatten_append, List.flatten_cons, List.flatten_nil, List.append_nil]
   generalize (Tp.take i).flatten = u at *
   generalize Tp[i] = y at *
   generalize (V1 ++ PT) ++ V2 = pre at *
   repeat ((try conv => whnf); first | (with_reducible first | refine z0c (fun Qs hN hE hR => ?_) | refine z0a ?_ | refine z02 (fun Qb kN kE kX kR => ?_) | refine z04 ?_ | refine z05 ?_ | refine z0b ?_ | refine z06 ?_ | refine z07 ?_ | (show W _ _ _ (.cond _ _ _) _ _; refine z03 rfl ?_) | (refine hN _ ?_; try clear hN hE hR Qs; (try (conv => arg 6; dsimp only [ovl, List.set, List.map, ren0]))) | ((first | refine hE _ _ ?_ | refine hR _ ?_); try clear hN hE hR Qs) | ((first | refine kN _ ?_ | refine kE _ ?_ | refine kX _ _ rfl ?_ | refine kR _ ?_); try clear kN kE kX kR Qb)) | (refine Exists.intro Tp.length (And.intro hTl ?_)) | (refine z0Q f1 ?_) | (refine i_at gi ?_) | (refine And.intro (by simp only [List.length_append]; omega) ?_) | (refine And.intro (by kernel_rfl) ?_) | (refine stpQ ?_))
   refine ⟨i + 1, hlt, by omega, ?_⟩
   rw [hnx]
   (refine z08 (by rfl) ?_ ?_) <;> (repeat' (first | (exact eqA) | (refine shE ?_) | (refine And.intro ?_ ?_))) <;> first | rfl | (rw [List.append_assoc])
  ·have hie : i = Tp.length := by omega
   subst hie
   have f1 : ¬ ((Tp.length : Nat) : Int) < ((Tp.length : Nat) : Int) := by omega
   repeat ((try conv => whnf); first | (with_reducible first | refine z0c (fun Qs hN hE hR => ?_) | refine z0a ?_ | refine z02 (fun Qb kN kE kX kR => ?_) | refine z04 ?_ | refine z05 ?_ | refine z0b ?_ | refine z06 ?_ | refine z07 ?_ | (show W _ _ _ (.cond _ _ _) _ _; refine z03 rfl ?_) | (refine hN _ ?_; try clear hN hE hR Qs; (try (conv => arg 6; dsimp only [ovl, List.set, List.map, ren0]))) | ((first | refine hE _ _ ?_ | refine hR _ ?_); try clear hN hE hR Qs) | ((first | refine kN _ ?_ | refine kE _ ?_ | refine kX _ _ rfl ?_ | refine kR _ ?_); try clear kN kE kX kR Qb)) | (refine Exists.intro Tp.length (And.intro hTl ?_)) | (refine z0z f1 ?_) | (refine stpQ ?_))
   rw [List.take_length]
   (refine z08 (by rfl) ?_ ?_) <;> (repeat' (first | (exact eqA) | (refine shE ?_) | (refine And.intro ?_ ?_))) <;> rfl
 ·have hTpl : Tp.flatten.length ≤ 32 := by omega
  generalize (V1 ++ PT) ++ V2 = pre at *
  generalize Tp.flatten = TF at *
  repeat ((try conv => whnf); first | (with_reducible first | refine z0c (fun Qs hN hE hR => ?_) | refine z0a ?_ | refine z02 (fun Qb kN kE kX kR => ?_) | refine z04 ?_ | refine z05 ?_ | refine z0b ?_ | refine z06 ?_ | refine z07 ?_ | (show W _ _ _ (.cond _ _ _) _ _; refine z03 rfl ?_) | (refine hN _ ?_; try clear hN hE hR Qs; (try (conv => arg 6; dsimp only [ovl, List.set, List.map, ren0]))) | ((first | refine hE _ _ ?_ | refine hR _ ?_); try clear hN hE hR Qs) | ((first | refine kN _ ?_ | refine kE _ ?_ | refine kX _ _ rfl ?_ | refine kR _ ?_); try clear kN kE kX kR Qb)) | (refine Exists.intro st.length (And.intro hSl ?_)) | (refine ccA ([]) (v3) ?_) | (refine ccA ([]) (v4) ?_) | (refine And.intro (by simp only [List.length_append]; omega) ?_) | (refine And.intro (by kernel_rfl) ?_) | (refine stpQ ?_))
  have hpre2 : (pre ++ TF ++ V3 ++ SB ++ V4).length ≤ 20500 := by simp only [List.length_append]; omega
  refine z1r 2 ⟨[(8, .str ((pre ++ TF ++ V3 ++ SB ++ V4) ++ stL st))], [], 1⟩ Nat (fun i => ⟨[(1, .ptr 1 0 0), (8, .str ((pre ++ TF ++ V3 ++ SB ++ V4) ++ stL (st.take i))), (10, .int .i64 (i : Int))], [(1, some (.box [.sl 2 (lvE B), .sl 1 (strE S), .sl 1 (strE Tp), .int .i64 (ho : Int), .int .i64 (ep : Int), .str ro, .str pr, .int .i64 (sa : Int), .sl 1 (strE so), .sl 1 (strE ss), .sl 1 (strE si), .sl 5 (stE st)]))], 2⟩) (fun i => i ≤ st.length) (fun i => st.length - i) 0 (Nat.zero_le _) ?_ ?_ ?_
  ·(refine z08 (by rfl) ?_ ?_) <;> (repeat' (first | (exact eqA) | (refine shE ?_) | (refine And.intro ?_ ?_))) <;> first | rfl | (simp [stL]; done)
  ·intro i hi
   by_cases hlt : i < st.length
   ·have f1 : (i : Int) < ((st.length : Nat) : Int) := by omega
    have gi : (stE st)[i]? = some (T.int .i64 (st[i].1 : Int) :: sgE st[i].2) := by simp [stE, List.getElem?_eq_getElem hlt]
    obtain ⟨h1, h2⟩ := gsh i hlt
    have h3 := hsk i
    have cG := z2q st[i].2 h2
    have cI := zd9 (x := (st[i].1 : Int)) (lo := 0) (hi := 2) (by omega)
    have h4 := z1F h2
    have e8 := u8_w h1
    have hnx : stL (st.take (i + 1)) = stL (st.take i) ++ ([UInt8.ofNat st[i].1] ++ sigB st[i].2) := by rw [List.take_succ_eq_append_getElem hlt, z7Z]; show _ ++ (UInt8.ofNat st[i].1 :: (sigB st[i].2 ++ [])) = _; rw [List.append_nil]; rfl
    generalize st[i].1 = a at *
    generalize st[i].2 = s at *
    generalize sigB s = sgt at *
    obtain ⟨s0, s1, s2, s3⟩ := s
    unfold sgE at gi cG
    dsimp only at gi cG
    generalize stL (st.take i) = u at *
    generalize pre ++ TF ++ V3 ++ SB ++ V4 = pre2 at *
    repeat ((try conv => whnf); first | (with_reducible first | refine z0c (fun Qs hN hE hR => ?_) | refine z0a ?_ | refine z02 (fun Qb kN kE kX kR => ?_) | refine z04 ?_ | refine z05 ?_ | refine z0b ?_ | refine z06 ?_ | refine z07 ?_ | (show W _ _ _ (.cond _ _ _) _ _; refine z03 rfl ?_) | (refine hN _ ?_; try clear hN hE hR Qs; (try (conv => arg 6; dsimp only [ovl, List.set, List.map, ren0]))) | ((first | refine hE _ _ ?_ | refine hR _ ?_); try clear hN hE hR Qs) | ((first | refine kN _ ?_ | refine kE _ ?_ | refine kX _ _ rfl ?_ | refine kR _ ?_); try clear kN kE kX kR Qb)) | (refine Exists.intro st.length (And.intro hSl ?_)) | (refine z0Q f1 ?_) | (refine i_at gi ?_) | (refine ccA ([]) (cG) ?_) | (refine ccA ([]) (cI) ?_) | (refine Exists.intro _ (And.intro e8.symm ?_)) | (refine Exists.intro [UInt8.ofNat a] (And.intro rfl ?_)) | (refine And.intro (by simp only [List.length_append, List.length_cons, List.length_nil]; omega) ?_) | (refine And.intro (by kernel_rfl) ?_) | (refine stpQ ?_))
    refine ⟨i + 1, hlt, by omega, ?_⟩
    rw [hnx]
    (refine z08 (by rfl) ?_ ?_) <;> (repeat' (first | (exact eqA) | (refine shE ?_) | (refine And.intro ?_ ?_))) <;> first | rfl | (simp only [List.append_assoc])
   ·have hie : i = st.length := by omega
    subst hie
    have f1 : ¬ ((st.length : Nat) : Int) < ((st.length : Nat) : Int) := by omega
    repeat ((try conv => whnf); first | (with_reducible first | refine z0c (fun Qs hN hE hR => ?_) | refine z0a ?_ | refine z02 (fun Qb kN kE kX kR => ?_) | refine z04 ?_ | refine z05 ?_ | refine z0b ?_ | refine z06 ?_ | refine z07 ?_ | (show W _ _ _ (.cond _ _ _) _ _; refine z03 rfl ?_) | (refine hN _ ?_; try clear hN hE hR Qs; (try (conv => arg 6; dsimp only [ovl, List.set, List.map, ren0]))) | ((first | refine hE _ _ ?_ | refine hR _ ?_); try clear hN hE hR Qs) | ((first | refine kN _ ?_ | refine kE _ ?_ | refine kX _ _ rfl ?_ | refine kR _ ?_); try clear kN kE kX kR Qb)) | (refine Exists.intro st.length (And.intro hSl ?_)) | (refine z0z f1 ?_) | (refine stpQ ?_))
    rw [List.take_length]
    (refine z08 (by rfl) ?_ ?_) <;> (repeat' (first | (exact eqA) | (refine shE ?_) | (refine And.intro ?_ ?_))) <;> rfl
  ·repeat ((try conv => whnf); first | (with_reducible first | refine z0c (fun Qs hN hE hR => ?_) | refine z0a ?_ | refine z02 (fun Qb kN kE kX kR => ?_) | refine z04 ?_ | refine z05 ?_ | refine z0b ?_ | refine z06 ?_ | refine z07 ?_ | (show W _ _ _ (.cond _ _ _) _ _; refine z03 rfl ?_) | (refine hN _ ?_; try clear hN hE hR Qs; (try (conv => arg 6; dsimp only [ovl, List.set, List.map, ren0]))) | ((first | refine hE _ _ ?_ | refine hR _ ?_); try clear hN hE hR Qs) | ((first | refine kN _ ?_ | refine kE _ ?_ | refine kX _ _ rfl ?_ | refine kR _ ?_); try clear kN kE kX kR Qb)) | (refine stpQ ?_))
   (refine z00 (by rfl) ?_ ?_ (by rfl)) <;> (repeat' (first | (exact eqA) | (refine shE ?_) | (refine And.intro ?_ ?_))) <;> rfl
end
end Go.Proofs.Ytnhcfmmdaihneaa
namespace Go.Proofs.Ytnhcfmmdaihneaa
set_option linter.unusedVariables false
set_option linter.unusedSimpArgs false
set_option linter.unusedSectionVars false
open Go.RowKit Pl
def slO : Option (Hd × Sg) → List T
 | some y => [.int .i64 (y.1.ho : Int), .int .i64 (y.1.ep : Int), .str y.1.ro, .str y.1.pr, .int .i64 (y.2.a : Int), .sl 1 (strE y.2.op), .sl 1 (strE y.2.sh), .sl 1 (strE y.2.si)]
 | none => [.int .i64 0, .int .i64 0, .str [], .str [], .int .i64 0, .sl 1 [], .sl 1 [], .sl 1 []]
theorem z7m (o : Option (Hd × Sg)) : ∃ (ho ep : Int) (ro pr : Bs) (a : Int) (op sh si : List (List T)), slO o = [.int .i64 ho, .int .i64 ep, .str ro, .str pr, .int .i64 a, .sl 1 op, .sl 1 sh, .sl 1 si] := by
 cases o with
 | none => exact ⟨_, _, _, _, _, _, _, _, rfl⟩
 | some y => exact ⟨_, _, _, _, _, _, _, _, rfl⟩
theorem z7n (o : Option Sg) : ∃ (a : Int) (op sh si : List (List T)), sgO o = [.int .i64 a, .sl 1 op, .sl 1 sh, .sl 1 si] := by
 cases o with
 | none => exact ⟨_, _, _, _, rfl⟩
 | some y => exact ⟨_, _, _, _, rfl⟩
def whC (B : List Lf) (S Tp : List Bs) (o : Option (Hd × Sg)) (st : List (Nat × Option Sg)) : List T := [.sl 2 (lvE B), .sl 1 (strE S), .sl 1 (strE Tp)] ++ slO o ++ [.sl 5 (stX st)]
theorem z88 (x : Wh) : whC x.B x.S x.T (some (x.hd, x.sg)) (stO x.st) = whE x := by
 unfold whC whE
 rw [zdc]
 rfl
section
attribute [local irreducible] z0m z0o z0s AnsP LeP W CvE
theorem zbQ (o : Option (Hd × Sg)) (h : ∀ y, o = some y → y.1.good ∧ y.2.good) : ∃ sb : Bs, sb.length ≤ 400 ∧ CT Try.prog 44 [] [.agg (slO o)] (.tup [.str sb, .bool o.isSome]) [] := by
 cases o with
 | none => exact ⟨[], by simp, z3V sa0 ⟨by simp [sa0], by simp [sa0], by simp [sa0]⟩ rfl⟩
 | some y =>
   obtain ⟨g, gs⟩ := h y rfl
   refine ⟨z0F y.1 y.2, ?_, z2H y.1 y.2 g gs⟩
   have a := z2c (h := y.1) gs
   have b := z0x (l := z0E y.1) (by have := z0B g; omega)
   have c := z0B g
   omega
set_option maxRecDepth 100000 in
set_option maxHeartbeats 16000000 in
theorem z6f (B : List Lf) (S Tp : List Bs) (o : Option (Hd × Sg)) (st : List (Nat × Option Sg)) (hsml : Sml B) (hl2 : (B.length : Int) ≤ 100) (hS : S.length ≤ 100) (hTp : Tp.length ≤ 10) (hst : st.length ≤ 10) (ho : ∀ y, o = some y → y.1.good ∧ y.2.good) (hs : ∀ y ∈ st, ∀ s, y.2 = some s → s.good) (hpl : z0u B S 16 = true → (z0f B S).length ≤ 20000)
 (hn : ¬ (z0u B S 16 = true ∧ o.isSome = true ∧ Tp.length ≤ 2 ∧ (∀ y ∈ Tp, y.length = 16) ∧ st.length ≤ 3 ∧ Allg st)) :
 CT Try.prog 16 [] [.agg (whC B S Tp o st)] (.tup [.str [], .bool false]) [] := by
 have cP := z2F B S 16 hsml hl2 (by omega)
 obtain ⟨SB, lsl, cS⟩ := zbQ o ho
 have cW := zaH Tp 16 (by omega)
 have hTl := z0q Tp
 have hSl := zaV st
 have gst : ∀ i (h : i < st.length), ∀ s, st[i].2 = some s → s.good := fun i h => hs _ (List.getElem_mem h)
 have hg : ∀ i (h : i < st.length), (stX st)[i]? = some (T.int .i64 (st[i].1 : Int) :: sgO st[i].2) := fun i h => zda h
 have hw : Pl.wideB Tp 16 = true → ∀ y ∈ Tp, y.length = 16 := fun h y hy => by
  simp only [Pl.wideB, Bool.and_eq_true, List.all_eq_true, decide_eq_true_eq] at h
  have := h.1 y hy
  omega
 have hall : Pl.wideB Tp 16 = true → o.isSome = true → z0u B S 16 = true → Tp.length ≤ 2 → st.length ≤ 3 → ¬ Allg st := fun h1 h2 h3 h4 h5 h6 => hn ⟨h3, h2, h4, hw h1, h5, h6⟩
 clear hn hs
 obtain ⟨zh, ze, zr, zp, za, zo, zs, zi, hO⟩ := z7m o
 unfold whC
 rw [hO] at cS ⊢
 clear hO ho
 simp only [List.cons_append, List.nil_append]
 generalize o.isSome = two at cS hall
 generalize hPT : z0f B S = PT at cP hpl
 generalize z0u B S 16 = one at cP hall hpl
 have v1 := fun h => z29 PT.length (by have := hpl h; omega)
 cases one with
 | false =>
   change CT _ _ _ _ (.tup [.str [], .bool false]) _ at cP
   refine z01 z0y 1 rfl Try.func16 rfl rfl rfl ?_
   conv => arg 6; whnf
   repeat ((try conv => whnf); first | (with_reducible first | refine z0c (fun Qs hN hE hR => ?_) | refine z0a ?_ | refine z02 (fun Qb kN kE kX kR => ?_) | refine z04 ?_ | refine z05 ?_ | refine z0b ?_ | refine z06 ?_ | refine z07 ?_ | (show W _ _ _ (.cond _ _ _) _ _; refine z03 rfl ?_) | (refine hN _ ?_; try clear hN hE hR Qs; (try (conv => arg 6; dsimp only [ovl, List.set, List.map, ren0]))) | ((first | refine hE _ _ ?_ | refine hR _ ?_); try clear hN hE hR Qs) | ((first | refine kN _ ?_ | refine kE _ ?_ | refine kX _ _ rfl ?_ | refine kR _ ?_); try clear kN kE kX kR Qb)) | (refine ccA ([]) (cP) ?_) | (refine ccA ([]) (cS) ?_) | (refine ccA ([]) (cW) ?_) | (refine And.intro (by kernel_rfl) ?_) | (refine stpQ ?_))
   (refine z00 (by rfl) ?_ ?_ (by rfl)) <;> (repeat' (first | (exact eqA) | (refine shE ?_) | (refine And.intro ?_ ?_)))
 | true =>
 change CT _ _ _ _ (.tup [.str PT, .bool true]) _ at cP
 have hpl2 := hpl rfl
 have v1' := v1 rfl
 cases two with
 | false =>
   refine z01 z0y 1 rfl Try.func16 rfl rfl rfl ?_
   conv => arg 6; whnf
   repeat ((try conv => whnf); first | (with_reducible first | refine z0c (fun Qs hN hE hR => ?_) | refine z0a ?_ | refine z02 (fun Qb kN kE kX kR => ?_) | refine z04 ?_ | refine z05 ?_ | refine z0b ?_ | refine z06 ?_ | refine z07 ?_ | (show W _ _ _ (.cond _ _ _) _ _; refine z03 rfl ?_) | (refine hN _ ?_; try clear hN hE hR Qs; (try (conv => arg 6; dsimp only [ovl, List.set, List.map, ren0]))) | ((first | refine hE _ _ ?_ | refine hR _ ?_); try clear hN hE hR Qs) | ((first | refine kN _ ?_ | refine kE _ ?_ | refine kX _ _ rfl ?_ | refine kR _ ?_); try clear kN kE kX kR Qb)) | (refine ccA ([]) (cP) ?_) | (refine ccA ([]) (cS) ?_) | (refine ccA ([]) (cW) ?_) | (refine And.intro (by kernel_rfl) ?_) | (refine stpQ ?_))
   (refine z00 (by rfl) ?_ ?_ (by rfl)) <;> (repeat' (first | (exact eqA) | (refine shE ?_) | (refine And.intro ?_ ?_)))
 | true =>
 by_cases f2 : (Tp.length : Int) > 2
 ·refine z01 z0y 1 rfl Try.func16 rfl rfl rfl ?_
  repeat ((try conv => whnf); first | (with_reducible first | refine z0c (fun Qs hN hE hR => ?_) | refine z0a ?_ | refine z02 (fun Qb kN kE kX kR => ?_) | refine z04 ?_ | refine z05 ?_ | refine z0b ?_ | refine z06 ?_ | refine z07 ?_ | (show W _ _ _ (.cond _ _ _) _ _; refine z03 rfl ?_) | (refine hN _ ?_; try clear hN hE hR Qs; (try (conv => arg 6; dsimp only [ovl, List.set, List.map, ren0]))) | ((first | refine hE _ _ ?_ | refine hR _ ?_); try clear hN hE hR Qs) | ((first | refine kN _ ?_ | refine kE _ ?_ | refine kX _ _ rfl ?_ | refine kR _ ?_); try clear kN kE kX kR Qb)) | (refine ccA ([]) (cP) ?_) | (refine ccA ([]) (cS) ?_) | (refine ccA ([]) (cW) ?_) | (refine Exists.intro Tp.length (And.intro hTl ?_)) | (refine z0Q f2 ?_) | (refine And.intro (by kernel_rfl) ?_) | (refine stpQ ?_))
  (refine z00 (by rfl) ?_ ?_ (by rfl)) <;> (repeat' (first | (exact eqA) | (refine shE ?_) | (refine And.intro ?_ ?_)))
 generalize hwd : Pl.wideB Tp 16 = wd at cW hall hw
 cases wd with
 | false =>
   refine z01 z0y 1 rfl Try.func16 rfl rfl rfl ?_
   conv => arg 6; whnf
   repeat ((try conv => whnf); first | (with_reducible first | refine z0c (fun Qs hN hE hR => ?_) | refine z0a ?_ | refine z02 (fun Qb kN kE kX kR => ?_) | refine z04 ?_ | refine z05 ?_ | refine z0b ?_ | refine z06 ?_ | refine z07 ?_ | (show W _ _ _ (.cond _ _ _) _ _; refine z03 rfl ?_) | (refine hN _ ?_; try clear hN hE hR Qs; (try (conv => arg 6; dsimp only [ovl, List.set, List.map, ren0]))) | ((first | refine hE _ _ ?_ | refine hR _ ?_); try clear hN hE hR Qs) | ((first | refine kN _ ?_ | refine kE _ ?_ | refine kX _ _ rfl ?_ | refine kR _ ?_); try clear kN kE kX kR Qb)) | (refine ccA ([]) (cP) ?_) | (refine ccA ([]) (cS) ?_) | (refine ccA ([]) (cW) ?_) | (refine Exists.intro Tp.length (And.intro hTl ?_)) | (refine z0z f2 ?_) | (refine And.intro (by kernel_rfl) ?_) | (refine stpQ ?_))
   (refine z00 (by rfl) ?_ ?_ (by rfl)) <;> (repeat' (first | (exact eqA) | (refine shE ?_) | (refine And.intro ?_ ?_)))
 | true =>
 by_cases f3 : (st.length : Int) > 3
 ·refine z01 z0y 1 rfl Try.func16 rfl rfl rfl ?_
  repeat ((try conv => whnf); first | (with_reducible first | refine z0c (fun Qs hN hE hR => ?_) | refine z0a ?_ | refine z02 (fun Qb kN kE kX kR => ?_) | refine z04 ?_ | refine z05 ?_ | refine z0b ?_ | refine z06 ?_ | refine z07 ?_ | (show W _ _ _ (.cond _ _ _) _ _; refine z03 rfl ?_) | (refine hN _ ?_; try clear hN hE hR Qs; (try (conv => arg 6; dsimp only [ovl, List.set, List.map, ren0]))) | ((first | refine hE _ _ ?_ | refine hR _ ?_); try clear hN hE hR Qs) | ((first | refine kN _ ?_ | refine kE _ ?_ | refine kX _ _ rfl ?_ | refine kR _ ?_); try clear kN kE kX kR Qb)) | (refine ccA ([]) (cP) ?_) | (refine ccA ([]) (cS) ?_) | (refine ccA ([]) (cW) ?_) | (refine Exists.intro Tp.length (And.intro hTl ?_)) | (refine Exists.intro st.length (And.intro hSl ?_)) | (refine z0z f2 ?_) | (refine z0Q f3 ?_) | (refine And.intro (by kernel_rfl) ?_) | (refine stpQ ?_))
  (refine z00 (by rfl) ?_ ?_ (by rfl)) <;> (repeat' (first | (exact eqA) | (refine shE ?_) | (refine And.intro ?_ ?_)))
 have hna := hall rfl rfl rfl (by omega) (by omega)
 have gtw := hw rfl
 have hT : ∀ i (h : i < Tp.length), Tp[i].length = 16 := fun i h => gtw _ (List.getElem_mem h)
 have htk : ∀ i, (Tp.take i).flatten.length ≤ 32 := fun i => by
  have := z1g (l := Tp.take i) fun y hy => gtw y (List.mem_of_mem_take hy)
  rw [List.length_take] at this
  omega
 have hfl := z1g gtw
 have v2 := z29 Tp.length (by omega)
 have v3 := z29 SB.length (by omega)
 have v4 := z29 st.length (by omega)
 have k1 := z0D (n := PT.length) (by omega)
 have k2 := z0D (n := Tp.length) (by omega)
 have k3 := z0D (n := SB.length) (by omega)
 have k4 := z0D (n := st.length) (by omega)
 clear hall hw hwd hpl v1 hPT
 generalize z0d PT.length = V1 at *
 generalize z0d Tp.length = V2 at *
 generalize z0d SB.length = V3 at *
 generalize z0d st.length = V4 at *
 have hpre : ((V1 ++ PT) ++ V2).length ≤ 20020 := by simp only [List.length_append]; omega
 refine z01 z0y 1 rfl Try.func16 rfl rfl rfl ?_
 conv => arg 6; whnf
 repeat ((try conv => whnf); first | (with_reducible first | refine z0c (fun Qs hN hE hR => ?_) | refine z0a ?_ | refine z02 (fun Qb kN kE kX kR => ?_) | refine z04 ?_ | refine z05 ?_ | refine z0b ?_ | refine z06 ?_ | refine z07 ?_ | (show W _ _ _ (.cond _ _ _) _ _; refine z03 rfl ?_) | (refine hN _ ?_; try clear hN hE hR Qs; (try (conv => arg 6; dsimp only [ovl, List.set, List.map, ren0]))) | ((first | refine hE _ _ ?_ | refine hR _ ?_); try clear hN hE hR Qs) | ((first | refine kN _ ?_ | refine kE _ ?_ | refine kX _ _ rfl ?_ | refine kR _ ?_); try clear kN kE kX kR Qb)) | (refine ccA ([]) (cP) ?_) | (refine ccA ([]) (cS) ?_) | (refine ccA ([]) (cW) ?_) | (refine Exists.intro Tp.length (And.intro hTl ?_)) | (refine Exists.intro st.length (And.intro hSl ?_)) | (refine z0z f2 ?_) | (refine z0z f3 ?_) | (refine ccA ([]) (v1') ?_) | (refine ccA ([]) (v2) ?_) | (refine And.intro (by simp only [List.length_append]; omega) ?_) | (refine And.intro (by kernel_rfl) ?_) | (refine stpQ ?_))
 refine z1r 0 ⟨[(1, .ptr 1 0 0), (6, .str SB), (8, .str (((V1 ++ PT) ++ V2) ++ Tp.flatten))], [(1, some (.box [.sl 2 (lvE B), .sl 1 (strE S), .sl 1 (strE Tp), .int .i64 zh, .int .i64 ze, .str zr, .str zp, .int .i64 za, .sl 1 zo, .sl 1 zs, .sl 1 zi, .sl 5 (stX st)]))], 2⟩ Nat (fun i => ⟨[(1, .ptr 1 0 0), (6, .str SB), (8, .str (((V1 ++ PT) ++ V2) ++ (Tp.take i).flatten)), (9, .int .i64 (i : Int))], [(1, some (.box [.sl 2 (lvE B), .sl 1 (strE S), .sl 1 (strE Tp), .int .i64 zh, .int .i64 ze, .str zr, .str zp, .int .i64 za, .sl 1 zo, .sl 1 zs, .sl 1 zi, .sl 5 (stX st)]))], 2⟩) (fun i => i ≤ Tp.length) (fun i => Tp.length - i) 0 (Nat.zero_le _) ?_ ?_ ?_
 ·(refine z08 (by rfl) ?_ ?_) <;> (repeat' (first | (exact eqA) | (refine shE ?_) | (refine And.intro ?_ ?_))) <;> first | rfl | (simp; done)
 ·intro i hi
  by_cases hlt : i < Tp.length
  ·have f1 : (i : Int) < ((Tp.length : Nat) : Int) := by omega
   have gi : (strE Tp)[i]? = some [.str Tp[i]] := by simp [strE, List.getElem?_eq_getElem hlt]
   have h1 := hT i hlt
   have h2 := htk i
   have hnx : (Tp.take (i + 1)).flatten = (Tp.take i).flatten ++ Tp[i] := by rw [List.take_succ_eq_append_getElem hlt, List.flatten_append, List.flatten_cons, List.flatten_nil, List.append_nil]
   generalize (Tp.take i).flatten = u at *
   generalize Tp[i] = y at *
   generalize (V1 ++ PT) ++ V2 = pre at *
   repeat ((try conv => whnf); first | (with_reducible first | refine z0c (fun Qs hN hE hR => ?_) | refine z0a ?_ | refine z02 (fun Qb kN kE kX kR => ?_) | refine z04 ?_ | refine z05 ?_ | refine z0b ?_ | refine z06 ?_ | refine z07 ?_ | (show W _ _ _ (.cond _ _ _) _ _; refine z03 rfl ?_) | (refine hN _ ?_; try clear hN hE hR Qs; (try (conv => arg 6; dsimp only [ovl, List.set, List.map, ren0]))) | ((first | refine hE _ _ ?_ | refine hR _ ?_); try clear hN hE hR Qs) | ((first | refine kN _ ?_ | refine kE _ ?_ | refine kX _ _ rfl ?_ | refine kR _ ?_); try clear kN kE kX kR Qb)) | (refine Exists.intro Tp.length (And.intro hTl ?_)) | (refine z0Q f1 ?_) | (refine i_at gi ?_) | (refine And.intro (by simp only [List.length_append]; omega) ?_) | (refine And.intro (by kernel_rfl) ?_) | (refine stpQ ?_))
   refine ⟨i + 1, hlt, by omega, ?_⟩
   rw [hnx]
   (refine z08 (by rfl) ?_ ?_) <;> (repeat' (first | (exact eqA) | (refine shE ?_) | (refine And.intro ?_ ?_))) <;> first | rfl | (rw [List.append_assoc])
  ·have hie : i = Tp.length := by omega
   subst hie
   have f1 : ¬ ((Tp.length : Nat) : Int) < ((Tp.length : Nat) : Int) := by omega
   repeat ((try conv => whnf); first | (with_reducible first | refine z0c (fun Qs hN hE hR => ?_) | refine z0a ?_ | refine z02 (fun Qb kN kE kX kR => ?_) | refine z04 ?_ | refine z05 ?_ | refine z0b ?_ | refine z06 ?_ | refine z07 ?_ | (show W _ _ _ (.cond _ _ _) _ _; refine z03 rfl ?_) | (refine hN _ ?_; try clear hN hE hR Qs; (try (conv => arg 6; dsimp only [ovl, List.set, List.map, ren0]))) | ((first | refine hE _ _ ?_ | refine hR _ ?_); try clear hN hE hR Qs) | ((first | refine kN _ ?_ | refine kE _ ?_ | refine kX _ _ rfl ?_ | refine kR _ ?_); try clear kN kE kX kR Qb)) | (refine Exists.intro Tp.length (And.intro hTl ?_)) | (refine z0z f1 ?_) | (refine stpQ ?_))
   rw [List.take_length]
   (refine z08 (by rfl) ?_ ?_) <;> (repeat' (first | (exact eqA) | (refine shE ?_) | (refine And.intro ?_ ?_))) <;> rfl
 ·have hTpl : Tp.flatten.length ≤ 32 := by omega
  generalize (V1 ++ PT) ++ V2 = pre at *
  generalize Tp.flatten = TF at *
  repeat ((try conv => whnf); first | (with_reducible first | refine z0c (fun Qs hN hE hR => ?_) | refine z0a ?_ | refine z02 (fun Qb kN kE kX kR => ?_) | refine z04 ?_ | refine z05 ?_ | refine z0b ?_ | refine z06 ?_ | refine z07 ?_ | (show W _ _ _ (.cond _ _ _) _ _; refine z03 rfl ?_) | (refine hN _ ?_; try clear hN hE hR Qs; (try (conv => arg 6; dsimp only [ovl, List.set, List.map, ren0]))) | ((first | refine hE _ _ ?_ | refine hR _ ?_); try clear hN hE hR Qs) | ((first | refine kN _ ?_ | refine kE _ ?_ | refine kX _ _ rfl ?_ | refine kR _ ?_); try clear kN kE kX kR Qb)) | (refine Exists.intro st.length (And.intro hSl ?_)) | (refine ccA ([]) (v3) ?_) | (refine ccA ([]) (v4) ?_) | (refine And.intro (by simp only [List.length_append]; omega) ?_) | (refine And.intro (by kernel_rfl) ?_) | (refine stpQ ?_))
  have hpre2 : (pre ++ TF ++ V3 ++ SB ++ V4).length ≤ 20500 := by simp only [List.length_append]; omega
  refine z3N (Nat × Bs) (fun x => ⟨[(1, .ptr 1 0 0), (8, .str x.2), (10, .int .i64 (x.1 : Int))], [(1, some (.box [.sl 2 (lvE B), .sl 1 (strE S), .sl 1 (strE Tp), .int .i64 zh, .int .i64 ze, .str zr, .str zp, .int .i64 za, .sl 1 zo, .sl 1 zs, .sl 1 zi, .sl 5 (stX st)]))], 2⟩) (fun x => x.1 ≤ st.length ∧ x.2.length ≤ 20500 + 400 * x.1 ∧ ∀ i (h : i < st.length), i < x.1 → st[i].1 ≤ 2 ∧ ∃ s, st[i].2 = some s ∧ s.good) (fun x => st.length - x.1) (0, pre ++ TF ++ V3 ++ SB ++ V4) ⟨Nat.zero_le _, hpre2, fun i _ h => absurd h (by simp)⟩ ?_ ?_
  ·(refine z08 (by rfl) ?_ ?_) <;> (repeat' (first | (exact eqA) | (refine shE ?_) | (refine And.intro ?_ ?_))) <;> first | rfl | (simp; done)
  ·intro Q1 hQ1 x hx
   obtain ⟨i, u⟩ := x
   obtain ⟨hi, hu, hgd⟩ := hx
   dsimp only at hi hu hgd ⊢
   by_cases hlt : i < st.length
   ·have f1 : (i : Int) < ((st.length : Nat) : Int) := by omega
    have gi := hg i hlt
    have cG := zdd st[i].2 (gst i hlt)
    have cI := z2D (st[i].1 : Int) 0 2
    have hnx : ∀ s, st[i].1 ≤ 2 → st[i].2 = some s → s.good → ∀ j (h : j < st.length), j < i + 1 → st[j].1 ≤ 2 ∧ ∃ s, st[j].2 = some s ∧ s.good := fun s h1 h2 h3 j hj hji => by
     by_cases he : j < i
     ·exact hgd j hj he
     ·obtain rfl : j = i := by omega
      exact ⟨h1, s, h2, h3⟩
    have gs := gst i hlt
    obtain ⟨ya, yo, ys, yi, hO2⟩ := z7n st[i].2
    rw [hO2] at gi cG
    clear hO2 hna
    cases hso : st[i].2 with
    | none =>
      rw [hso] at cG
      change CT _ _ _ _ (.tup [.str [], .bool false]) _ at cG
      clear hnx hgd
      generalize st[i].1 = a at *
      repeat ((try conv => whnf); first | (with_reducible first | refine z0c (fun Qs hN hE hR => ?_) | refine z0a ?_ | refine z02 (fun Qb kN kE kX kR => ?_) | refine z04 ?_ | refine z05 ?_ | refine z0b ?_ | refine z06 ?_ | refine z07 ?_ | (show W _ _ _ (.cond _ _ _) _ _; refine z03 rfl ?_) | (refine hN _ ?_; try clear hN hE hR Qs; (try (conv => arg 6; dsimp only [ovl, List.set, List.map, ren0]))) | ((first | refine hE _ _ ?_ | refine hR _ ?_); try clear hN hE hR Qs) | ((first | refine kN _ ?_ | refine kE _ ?_ | refine kX _ _ rfl ?_ | refine kR _ ?_); try clear kN kE kX kR Qb)) | (refine Exists.intro st.length (And.intro hSl ?_)) | (refine z0Q f1 ?_) | (refine i_at gi ?_) | (refine ccA ([]) (cG) ?_) | (refine And.intro (by kernel_rfl) ?_) | (refine stpQ ?_))
      refine hQ1 _ _ ?_
      clear hQ1 Q1
      repeat ((try conv => whnf); first | (with_reducible first | refine z0c (fun Qs hN hE hR => ?_) | refine z0a ?_ | refine z02 (fun Qb kN kE kX kR => ?_) | refine z04 ?_ | refine z05 ?_ | refine z0b ?_ | refine z06 ?_ | refine z07 ?_ | (show W _ _ _ (.cond _ _ _) _ _; refine z03 rfl ?_) | (refine hN _ ?_; try clear hN hE hR Qs; (try (conv => arg 6; dsimp only [ovl, List.set, List.map, ren0]))) | ((first | refine hE _ _ ?_ | refine hR _ ?_); try clear hN hE hR Qs) | ((first | refine kN _ ?_ | refine kE _ ?_ | refine kX _ _ rfl ?_ | refine kR _ ?_); try clear kN kE kX kR Qb)) | (refine And.intro (by kernel_rfl) ?_) | (refine stpQ ?_))
      (refine z00 (by rfl) ?_ ?_ (by rfl)) <;> (repeat' (first | (exact eqA) | (refine shE ?_) | (refine And.intro ?_ ?_)))
    | some s =>
      rw [hso] at cG
      change CT _ _ _ _ (.tup [.str (sigB s), .bool true]) _ at cG
      have gs1 := gs s hso
      have h4 := z1F gs1
      by_cases ha : st[i].1 ≤ 2
      ·have e8 := u8_w ha
       rw [z12.2 (show (0 : Int) ≤ ((st[i].1 : Nat) : Int) ∧ ((st[i].1 : Nat) : Int) ≤ 2 by omega)] at cI
       have hq := hnx s ha hso gs1
       clear hnx hgd
       generalize sigB s = sgt at *
       generalize hai : st[i].1 = a at gi cI e8
       have hu2 : (u ++ [UInt8.ofNat a] ++ sgt).length ≤ 20500 + 400 * (i + 1) := by
        simp only [List.length_append, List.length_cons, List.length_nil]; omega
       repeat ((try conv => whnf); first | (with_reducible first | refine z0c (fun Qs hN hE hR => ?_) | refine z0a ?_ | refine z02 (fun Qb kN kE kX kR => ?_) | refine z04 ?_ | refine z05 ?_ | refine z0b ?_ | refine z06 ?_ | refine z07 ?_ | (show W _ _ _ (.cond _ _ _) _ _; refine z03 rfl ?_) | (refine hN _ ?_; try clear hN hE hR Qs; (try (conv => arg 6; dsimp only [ovl, List.set, List.map, ren0]))) | ((first | refine hE _ _ ?_ | refine hR _ ?_); try clear hN hE hR Qs) | ((first | refine kN _ ?_ | refine kE _ ?_ | refine kX _ _ rfl ?_ | refine kR _ ?_); try clear kN kE kX kR Qb)) | (refine Exists.intro st.length (And.intro hSl ?_)) | (refine z0Q f1 ?_) | (refine i_at gi ?_) | (refine ccA ([]) (cG) ?_) | (refine ccA ([]) (cI) ?_) | (refine Exists.intro _ (And.intro e8.symm ?_)) | (refine Exists.intro [UInt8.ofNat a] (And.intro rfl ?_)) | (refine And.intro (by simp only [List.length_append, List.length_cons, List.length_nil]; omega) ?_) | (refine And.intro (by kernel_rfl) ?_) | (refine stpQ ?_))
       refine ⟨(i + 1, u ++ [UInt8.ofNat a] ++ sgt), ⟨hlt, hu2, hq⟩, (by show st.length - (i + 1) < st.length - i; omega), ?_⟩
       (refine z08 (by rfl) ?_ ?_) <;> (repeat' (first | (exact eqA) | (refine shE ?_) | (refine And.intro ?_ ?_))) <;> rfl
      ·have hI : inB ((st[i].1 : Nat) : Int) 0 2 = false := by
        cases h : inB ((st[i].1 : Nat) : Int) 0 2 with
        | false => rfl
        | true => have := z12.1 h; exact absurd (by omega) ha
       rw [hI] at cI
       clear hnx hgd hI
       generalize sigB s = sgt at *
       generalize hai : st[i].1 = a at gi cI
       repeat ((try conv => whnf); first | (with_reducible first | refine z0c (fun Qs hN hE hR => ?_) | refine z0a ?_ | refine z02 (fun Qb kN kE kX kR => ?_) | refine z04 ?_ | refine z05 ?_ | refine z0b ?_ | refine z06 ?_ | refine z07 ?_ | (show W _ _ _ (.cond _ _ _) _ _; refine z03 rfl ?_) | (refine hN _ ?_; try clear hN hE hR Qs; (try (conv => arg 6; dsimp only [ovl, List.set, List.map, ren0]))) | ((first | refine hE _ _ ?_ | refine hR _ ?_); try clear hN hE hR Qs) | ((first | refine kN _ ?_ | refine kE _ ?_ | refine kX _ _ rfl ?_ | refine kR _ ?_); try clear kN kE kX kR Qb)) | (refine Exists.intro st.length (And.intro hSl ?_)) | (refine z0Q f1 ?_) | (refine i_at gi ?_) | (refine ccA ([]) (cG) ?_) | (refine ccA ([]) (cI) ?_) | (refine And.intro (by kernel_rfl) ?_) | (refine stpQ ?_))
       refine hQ1 _ _ ?_
       clear hQ1 Q1
       repeat ((try conv => whnf); first | (with_reducible first | refine z0c (fun Qs hN hE hR => ?_) | refine z0a ?_ | refine z02 (fun Qb kN kE kX kR => ?_) | refine z04 ?_ | refine z05 ?_ | refine z0b ?_ | refine z06 ?_ | refine z07 ?_ | (show W _ _ _ (.cond _ _ _) _ _; refine z03 rfl ?_) | (refine hN _ ?_; try clear hN hE hR Qs; (try (conv => arg 6; dsimp only [ovl, List.set, List.map, ren0]))) | ((first | refine hE _ _ ?_ | refine hR _ ?_); try clear hN hE hR Qs) | ((first | refine kN _ ?_ | refine kE _ ?_ | refine kX _ _ rfl ?_ | refine kR _ ?_); try clear kN kE kX kR Qb)) | (refine And.intro (by kernel_rfl) ?_) | (refine stpQ ?_))
       (refine z00 (by rfl) ?_ ?_ (by rfl)) <;> (repeat' (first | (exact eqA) | (refine shE ?_) | (refine And.intro ?_ ?_)))
   ·exfalso
    refine hna fun y hy => ?_
    obtain ⟨j, hj, rfl⟩ := List.getElem_of_mem hy
    exact hgd j hj (by omega)
end
end Go.Proofs.Ytnhcfmmdaihneaa
namespace Go.Proofs.Ytnhcfmmdaihneaa
set_option linter.unusedVariables false
set_option linter.unusedSimpArgs false
set_option linter.unusedSectionVars false
open Go.RowKit Pl
def stS (t : Bs) : Nat → Nat → Bool → List (Nat × Option Sg) × Nat × Bool
 | 0, q, b => ([], q, b)
 | _ + 1, q, true => ([], q, true)
 | n + 1, q, false => (((z0S t q false).1, z35 (z0t t (z0S t q false).2.1 (z0S t q false).2.2 321).1) :: (stS t n (z0t t (z0S t q false).2.1 (z0S t q false).2.2 321).2.1 (z0t t (z0S t q false).2.1 (z0S t q false).2.2 321).2.2).1,
     (stS t n (z0t t (z0S t q false).2.1 (z0S t q false).2.2 321).2.1 (z0t t (z0S t q false).2.1 (z0S t q false).2.2 321).2.2).2)
def SsAt (t : Bs) (R : List (Nat × Option Sg) × Nat × Bool) (n : Nat) (s : List (Nat × Option Sg)) (q : Nat) (b : Bool) : Prop := R = (s ++ (stS t n q b).1, (stS t n q b).2)
theorem SsAt.step {t : Bs} {R : List (Nat × Option Sg) × Nat × Bool} {n : Nat} {s : List (Nat × Option Sg)} {q a q1 q2 : Nat} {b1 b2 : Bool} {u : Bs} (h : SsAt t R (n + 1) s q false) (h1 : z0S t q false = (a, q1, b1)) (h2 : z0t t q1 b1 321 = (u, q2, b2)) : SsAt t R n (s ++ [(a, z35 u)]) q2 b2 := by
 unfold SsAt at h ⊢
 rw [h, stS, h1]
 simp only [h2]
 simp
theorem SsAt.bad {t : Bs} {R : List (Nat × Option Sg) × Nat × Bool} {n : Nat} {s : List (Nat × Option Sg)} {q : Nat} (h : SsAt t R n s q true) : R = (s, q, true) := by
 unfold SsAt at h; rw [h]; cases n <;> simp [stS]
theorem SsAt.done {t : Bs} {R : List (Nat × Option Sg) × Nat × Bool} {s : List (Nat × Option Sg)} {q : Nat} {b : Bool} (h : SsAt t R 0 s q b) : R = (s, q, b) := by
 unfold SsAt at h; rw [h]; simp [stS]
theorem z5s {t : Bs} {p : Nat} {x : UInt8} {r : Bs} (h : t.drop p = x :: r) : z0S t p false = (x.toNat, p + 1, false) := by
 have h1 := z2o (t := t) (p := p) (n := 1) (l := [x]) (r := r) rfl (by rw [h]; rfl)
 unfold z0S
 rw [h1]
theorem z9z {t : Bs} {p : Nat} (h : t.length ≤ p) : z0S t p false = (0, p, true) := by
 unfold z0S z0h
 rw [if_pos]
 simp; omega
theorem z5t {t : Bs} {p n : Nat} {l r : Bs} (hn : l.length = n) (h : t.drop p = l ++ r) : z0t t p false (n : Int) = (l, p + n, false) := by
 unfold z0t
 rw [if_neg (by omega), Int.toNat_natCast]
 exact z2o hn h
theorem z5u {t : Bs} : ∀ {l : List Bs} {q : Nat} {r : Bs}, (∀ y ∈ l, y.length = 16) → t.drop q = l.flatten ++ r → z27 t 16 l.length q false = (l, q + 16 * l.length, false)
 | [], q, r, _, _ => rfl
 | y :: l, q, r, h, hd => by
   have h0 := h y (by simp)
   rw [List.flatten_cons, List.append_assoc] at hd
   have h1 : z0t t q false 16 = (y, q + 16, false) := z5t (n := 16) h0 hd
   have h2 := z0k h0 hd
   rw [List.length_cons, z27, h1]
   simp only
   rw [z5u (fun z hz => h z (by simp [hz])) h2]
   simp only [Prod.mk.injEq, and_true, true_and]
   omega
theorem zaW {t : Bs} : ∀ {l : List (Nat × Sg)} {q : Nat}, (∀ y ∈ l, y.1 ≤ 2 ∧ y.2.good) → t.drop q = stL l → stS t l.length q false = (stO l, q + 322 * l.length, false)
 | [], q, _, _ => rfl
 | y :: l, q, h, hd => by
   obtain ⟨h0, h1⟩ := h y (by simp)
   have hs := z1F h1
   have e1 : z0S t q false = (y.1, q + 1, false) := by
    have := z5s (t := t) (p := q) (x := UInt8.ofNat y.1) (r := sigB y.2 ++ stL l) (by rw [hd]; rfl)
    rw [this]
    simp [UInt8.toNat_ofNat']
    omega
   have d1 : t.drop (q + 1) = sigB y.2 ++ stL l := by
    have := z0k (t := t) (p := q) (n := 1) (l := [UInt8.ofNat y.1]) (r := sigB y.2 ++ stL l) rfl (by rw [hd]; rfl)
    exact this
   have e2 : z0t t (q + 1) false 321 = (sigB y.2, q + 1 + 321, false) := z5t (n := 321) hs d1
   have d2 := z0k hs d1
   rw [List.length_cons, stS, e1]
   simp only [e2]
   rw [zaW (fun z hz => h z (by simp [hz])) d2, z3x.2 ⟨h1, rfl⟩]
   simp only [Prod.mk.injEq, and_true]
   exact ⟨rfl, by omega⟩
section
attribute [local irreducible] z0m z0o z0s AnsP LeP W CvE
set_option maxRecDepth 100000 in
set_option maxHeartbeats 4000000 in
theorem zbR (t : Bs) (p : Nat) (b : Bool) (ht : (t.length : Int) ≤ 1000000000) (hp : p ≤ t.length) : CT Try.prog 14 [fldB t p b] [.ptr 1 0 0] (.int .i64 ((z0S t p b).1 : Int)) [fldB t (z0S t p b).2.1 (z0S t p b).2.2] := by
 unfold fldB
 cases b with
 | true =>
   rw [zaq]
   refine z01 z0y 2 rfl Try.func14 rfl rfl rfl ?_
   conv => arg 6; whnf
   repeat ((try conv => whnf); first | (with_reducible first | refine z0c (fun Qs hN hE hR => ?_) | refine z0a ?_ | refine z02 (fun Qb kN kE kX kR => ?_) | refine z04 ?_ | refine z05 ?_ | refine z0b ?_ | refine z06 ?_ | refine z07 ?_ | (show W _ _ _ (.cond _ _ _) _ _; refine z03 rfl ?_) | (refine hN _ ?_; try clear hN hE hR Qs; (try (conv => arg 6; dsimp only [ovl, List.set, List.map, ren0]))) | ((first | refine hE _ _ ?_ | refine hR _ ?_); try clear hN hE hR Qs) | ((first | refine kN _ ?_ | refine kE _ ?_ | refine kX _ _ rfl ?_ | refine kR _ ?_); try clear kN kE kX kR Qb)) | (refine And.intro (by kernel_rfl) ?_) | (refine stpQ ?_))
   (refine z00 (by rfl) ?_ ?_ (by rfl)) <;> (repeat' (first | (exact eqA) | (refine shE ?_) | (refine And.intro ?_ ?_))) <;> rfl
 | false =>
   by_cases hl : t.length ≤ p
   ·rw [z9z hl]
    have f1 : (p : Int) ≥ (t.length : Int) := by omega
    refine z01 z0y 2 rfl Try.func14 rfl rfl rfl ?_
    conv => arg 6; whnf
    repeat ((try conv => whnf); first | (with_reducible first | refine z0c (fun Qs hN hE hR => ?_) | refine z0a ?_ | refine z02 (fun Qb kN kE kX kR => ?_) | refine z04 ?_ | refine z05 ?_ | refine z0b ?_ | refine z06 ?_ | refine z07 ?_ | (show W _ _ _ (.cond _ _ _) _ _; refine z03 rfl ?_) | (refine hN _ ?_; try clear hN hE hR Qs; (try (conv => arg 6; dsimp only [ovl, List.set, List.map, ren0]))) | ((first | refine hE _ _ ?_ | refine hR _ ?_); try clear hN hE hR Qs) | ((first | refine kN _ ?_ | refine kE _ ?_ | refine kX _ _ rfl ?_ | refine kR _ ?_); try clear kN kE kX kR Qb)) | (refine z0Q f1 ?_) | (refine And.intro (by kernel_rfl) ?_) | (refine stpQ ?_))
    (refine z00 (by rfl) ?_ ?_ (by rfl)) <;> (repeat' (first | (exact eqA) | (refine shE ?_) | (refine And.intro ?_ ?_))) <;> rfl
   ·have hlt : p < t.length := by omega
    have hd : t.drop p = t[p] :: t.drop (p + 1) := List.drop_eq_getElem_cons hlt
    rw [z5s hd]
    have f1 : ¬ (p : Int) ≥ (t.length : Int) := by omega
    have g : t[p]? = some t[p] := List.getElem?_eq_getElem hlt
    have e1 : IntKind.i64.wrap (((t.getD p 0).toNat : Nat) : Int) = ((t[p].toNat : Nat) : Int) := by
     rw [show t.getD p 0 = t[p] by simp [List.getD, g]]
     exact z1i (by omega) (by have := t[p].toNat_lt; omega)
    have w1 : IntKind.i64.wrap ((p : Int) + 1) = ((p + 1 : Nat) : Int) := by rw [z1i (by omega) (by omega)]; omega
    have w2 : IntKind.i64.wrap (((p + 1 : Nat) : Int) - 1) = (p : Int) := by rw [z1i (by omega) (by omega)]; omega
    refine z01 z0y 2 rfl Try.func14 rfl rfl rfl ?_
    conv => arg 6; whnf
    repeat ((try conv => whnf); first | (with_reducible first | refine z0c (fun Qs hN hE hR => ?_) | refine z0a ?_ | refine z02 (fun Qb kN kE kX kR => ?_) | refine z04 ?_ | refine z05 ?_ | refine z0b ?_ | refine z06 ?_ | refine z07 ?_ | (show W _ _ _ (.cond _ _ _) _ _; refine z03 rfl ?_) | (refine hN _ ?_; try clear hN hE hR Qs; (try (conv => arg 6; dsimp only [ovl, List.set, List.map, ren0]))) | ((first | refine hE _ _ ?_ | refine hR _ ?_); try clear hN hE hR Qs) | ((first | refine kN _ ?_ | refine kE _ ?_ | refine kX _ _ rfl ?_ | refine kR _ ?_); try clear kN kE kX kR Qb)) | (refine z0z f1 ?_) | (refine Exists.intro _ (And.intro w1.symm ?_)) | (refine Exists.intro _ (And.intro w2.symm ?_)) | (refine Exists.intro p (And.intro rfl (And.intro hlt ?_))) | (refine Exists.intro _ (And.intro e1.symm ?_)) | (refine And.intro (by kernel_rfl) ?_) | (refine stpQ ?_))
    (refine z00 (by rfl) ?_ ?_ (by rfl)) <;> (repeat' (first | (exact eqA) | (refine shE ?_) | (refine And.intro ?_ ?_))) <;> rfl
end
end Go.Proofs.Ytnhcfmmdaihneaa
