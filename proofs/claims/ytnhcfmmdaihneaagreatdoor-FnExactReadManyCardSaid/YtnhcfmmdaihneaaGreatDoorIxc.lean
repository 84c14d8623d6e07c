/- Functions by content: the indexes of names, both sides. -/
import Derived.Test.YtnhcfmmdaihneaaGreatDoorIxo
import Derived.Test.YtnhcfmmdaihneaaGreatDoorVe
import Derived.Test.YtnhcfmmdaihneaaGreatDoorXt
import Derived.Test.YtnhcfmmdaihneaaGreatDoorVd
namespace Go.Proofs.YtnhcfmmdaihneaaGreatDoor
set_option linter.unusedVariables false
set_option linter.unusedSimpArgs false
set_option linter.unusedSectionVars false
open Go.RowKit Pl
def ixsI (names : List Bs) : List Int := z3P (names.map fun s => (ixB s : Int))
theorem z3z (l : List Int) : (inE l).length = l.length := by simp [inE]
theorem z82 (l : List Int) (x : Int) : inE (l ++ [x]) = inE l ++ [[.int .i64 x]] := by simp [inE]
theorem zbh {l : List Int} {k : Nat} (h : k < l.length) : (inE l)[k]? = some [.int .i64 l[k]] := by simp [inE, List.getElem?_eq_getElem h]
theorem zbi (names : List Bs) : ixL (fun k => names.getD k []) names.length = names.map fun s => (ixB s : Int) := by
 apply List.ext_getElem
 ·simp [ixL]
 ·intro i h1 h2
  have hi : i < names.length := by simpa [ixL] using h1
  simp [ixL, List.getD, List.getElem?_eq_getElem hi]
theorem zcr (names : List Bs) : (ixsI names).length ≤ names.length := by
 have := z98 (names.map fun s => (ixB s : Int))
 rwa [List.length_map] at this
theorem zbj : ∀ (hs : List Int), ∀ x ∈ z1M hs, x ∈ hs := by
 have key : ∀ (hs a : List Int), ∀ x ∈ hs.foldl addH a, x ∈ a ∨ x ∈ hs := by
  intro hs
  induction hs with
  | nil => intro a x hx; exact .inl hx
  | cons y hs ih =>
    intro a x hx
    rcases ih _ x hx with h | h
    ·rcases z6b.1 h with h | rfl
     ·exact .inl h
     ·exact .inr (by simp)
    ·exact .inr (by simp [h])
 intro hs x hx
 rcases key hs [] x hx with h | h
 ·cases h
 ·exact h
theorem z6f (names : List Bs) : ∀ x ∈ ixsI names, 0 ≤ x ∧ x < 256 := fun x hx => by
 have h2 := (z3y (names.map fun s => (ixB s : Int)) [] [] List.Pairwise.nil (List.Perm.refl _)).2
 have h3 : x ∈ z1M (names.map fun s => (ixB s : Int)) := h2.mem_iff.1 hx
 have h4 := zbj _ x h3
 simp only [List.mem_map] at h4
 obtain ⟨s, _, rfl⟩ := h4
 have := zcS s
 omega
theorem z83 (names : List Bs) : (ixsI names).Pairwise (· < ·) := (z3y (names.map fun s => (ixB s : Int)) [] [] List.Pairwise.nil (List.Perm.refl _)).1
theorem zdM {ow : Own} {w : World} {names : List Bs} {A : Option Addr}
 (h : strE names = [] ∨ ∃ g o C t fr, A = some ⟨g, o, none⟩ ∧ ow g = none ∧ w.heap[g]? = some (.cells C t fr) ∧ RE ow w 1 (strE names) (C.toList.drop o)) : NmRd w A names.length (fun k => names.getD k []) := by
 intro k hk
 have hz : (strE names)[k]? = some [.str (names.getD k [])] := by simp [strE, List.getD, List.getElem?_eq_getElem hk]
 rcases h with h | ⟨g, o, C, t, fr, rfl, -, hC, hE⟩
 ·rw [h] at hz; simp at hz
 obtain ⟨us, hl, hr, hv⟩ := z7n _ _ k _ hE hz
 simp only [RL] at hr
 obtain ⟨v0, r0, rfl, h0, rfl⟩ := hr
 simp only [RV] at h0
 subst h0
 have h1 := hv 0 (by decide)
 refine ⟨g, o, rfl, z0H hC, ?_⟩
 rw [List.getElem?_drop] at h1
 simp only [World.cell?, hC]
 simp only [Option.isSome_none, Bool.false_eq_true, if_false]
 rw [← Array.getElem?_toList]
 simpa using h1
theorem z84 (names : List Bs) (hn : names.length ≤ 1048576) (hl : ∀ s ∈ names, (s.length : Int) ≤ 100000000) : CT Tryz.prog 166 [] [.sl 1 (strE names)] (.sl 1 (inE (ixsI names))) [] := by
 refine zdJ ⟨_, Tryz.func166, rfl, rfl⟩ fun X hh vs ha => ?_
 obtain ⟨v, us, rfl, hv, rfl⟩ := ha
 have hv : RV X.ow X.w (.sl 1 (strE names)) v := hv
 simp only [RV] at hv
 obtain ⟨A, c, rfl, hc, hE⟩ := hv
 have hgl : Gl (cx0 X.w) := Gl.mono (X := X) (X' := cx0 X.w) (fun g hg hn => ⟨rfl, rfl⟩) hh.gl
 rw [z0m]
 refine (z81 A names.length c (fun k => names.getD k []) X.w hgl hn (zdM hE) fun k hk => ?_).mono ?_
 ·have : names.getD k [] = names[k] := by simp [List.getD, List.getElem?_eq_getElem hk]
  rw [this]
  exact hl _ (List.getElem_mem hk)
 ·rw [zbi]
  rintro e w' ⟨v, rfl, hown, hb⟩
  have hl : (z1M (names.map fun s => (ixB s : Int))).length = (ixsI names).length := by unfold ixsI; rw [← z7d]; simp
  rw [z7d, hl] at hown
  refine ⟨v, rfl, hb, ?_⟩
  change w'.ownsRow _ _ 1 v (ixsI names).length ((ixsI names).map (Value.int .i64)) at hown
  generalize ixsI names = L at hown
  show RV X.ow w' (.sl 1 (inE L)) v
  simp only [RV]
  rcases hown.2 with ⟨rfl, h0⟩ | ⟨g, cap, cur, rfl, hg, hC, h1, h2, h3, h4⟩
  ·obtain rfl : L = [] := List.eq_nil_of_length_eq_zero h0
   exact ⟨none, 0, rfl, Nat.le_refl _, .inl rfl⟩
  ·refine ⟨some ⟨g, 0, none⟩, cap, by rw [z3z], by rw [z3z]; exact h1, .inr ⟨g, 0, cur, _, _, rfl, ?_, hC, ?_⟩⟩
   ·cases ho : X.ow g with
    | none => rfl
    | some r => have := (hh.lt g r ho).1; omega
   ·rw [List.drop_zero]
    exact z9f L _ (by simpa using h4)
section
attribute [local irreducible] z0s z0t z0x AnsP LeP W CvE
theorem z7p {l : List Int} {p : Int → Bool} {k : Nat} (h : k < l.length) : (l.take (k + 1)).filter p = (l.take k).filter p ++ (if p l[k] then [l[k]] else []) := by
 rw [List.take_succ_eq_append_getElem h, List.filter_append]
 congr 1
 by_cases hp : p l[k] = true
 ·rw [List.filter_cons_of_pos hp, if_pos hp]; rfl
 ·rw [List.filter_cons_of_neg hp, if_neg hp]; rfl
set_option maxRecDepth 100000 in
set_option maxHeartbeats 8000000 in
theorem z3M (names : List Bs) (hn : names.length ≤ 1048576) (hl : ∀ s ∈ names, (s.length : Int) ≤ 100000000) : CT Tryz.prog 161 [] [.sl 1 (strE names)] (.sl 1 (inE (ixsI names))) [] := by
 have hlen := z0m names
 refine z0b z1j 1 rfl Tryz.func161 rfl rfl rfl ?_
 conv => arg 6; whnf
 repeat ((try conv => whnf); first | (with_reducible first | refine z0a (fun Qs hN hE hR => ?_) | refine z08 ?_ | refine z00 (fun Qb kN kE kX kR => ?_) | refine z03 ?_ | refine z04 ?_ | refine z09 ?_ | refine z05 ?_ | refine z06 ?_ | (show W _ _ _ (.cond _ _ _) _ _; refine z02 rfl ?_) | (refine hN _ ?_; try clear hN hE hR Qs) | ((first | refine hE _ _ ?_ | refine hR _ ?_); try clear hN hE hR Qs) | ((first | refine kN _ ?_ | refine kE _ ?_ | refine kX _ _ rfl ?_ | refine kR _ ?_); try clear kN kE kX kR Qb)) | (refine And.intro (by kernel_rfl) ?_) | (refine stpQ ?_))
 refine z0j 0 ⟨[(3, .ref 1)], [(1, some (.row 1 (inE (ixsI names))))], 2⟩ Nat (fun k => ⟨[(0, .sl 1 (strE names)), (3, .ref 1), (4, .int .i64 (k : Int))], [(1, some (.row 1 (inE (z3P ((names.take k).map fun s => (ixB s : Int))))))], 2⟩) (fun k => k ≤ names.length) (fun k => names.length - k) 0 (Nat.zero_le _) ?_ ?_ ?_
 ·(refine z01 (by rfl) ?_ ?_) <;> (repeat' (first | (exact eqA) | (refine shE ?_) | (refine And.intro ?_ ?_))) <;> first | rfl | decide
 ·intro k hk
  by_cases hlt : k < names.length
  ·have f1 : (k : Int) < ((names.length : Nat) : Int) := by omega
   have g : (strE names)[k]? = some [.str names[k]] := by simp [strE, List.getElem?_eq_getElem hlt]
   have cI := z5v names[k] (hl _ (List.getElem_mem hlt))
   have hnx : z3P ((names.take (k + 1)).map fun s => (ixB s : Int)) = insH (z3P ((names.take k).map fun s => (ixB s : Int))) (ixB names[k] : Int) := by
    rw [List.take_succ_eq_append_getElem hlt, List.map_append, List.map_cons, List.map_nil, z9O]
   have hle : (z3P ((names.take k).map fun s => (ixB s : Int))).length ≤ 1048576 := by
    have := z98 ((names.take k).map fun s => (ixB s : Int))
    rw [List.length_map, List.length_take] at this
    omega
   generalize z3P ((names.take k).map fun s => (ixB s : Int)) = L at *
   generalize ((ixB names[k] : Nat) : Int) = x at *
   generalize names[k] = u at *
   have hL := z3z L
   repeat ((try conv => whnf); first | (with_reducible first | refine z0a (fun Qs hN hE hR => ?_) | refine z08 ?_ | refine z00 (fun Qb kN kE kX kR => ?_) | refine z03 ?_ | refine z04 ?_ | refine z09 ?_ | refine z05 ?_ | refine z06 ?_ | (show W _ _ _ (.cond _ _ _) _ _; refine z02 rfl ?_) | (refine hN _ ?_; try clear hN hE hR Qs) | ((first | refine hE _ _ ?_ | refine hR _ ?_); try clear hN hE hR Qs) | ((first | refine kN _ ?_ | refine kE _ ?_ | refine kX _ _ rfl ?_ | refine kR _ ?_); try clear kN kE kX kR Qb)) | (refine Exists.intro names.length (And.intro hlen ?_)) | (refine z0d f1 ?_) | (refine i_at g ?_) | (refine ccA ([]) (cI) ?_) | (refine And.intro (by kernel_rfl) ?_) | (refine stpQ ?_))
   refine z0j 2 ⟨[(0, .sl 1 (strE names)), (3, .ref 1), (4, .int .i64 (k : Int)), (5, .int .i64 x), (6, .ref 2)], [(1, some (.row 1 (inE L))), (2, some (.row 1 (inE (L.filter fun y => decide (y < x)))))], 3⟩ Nat (fun j => ⟨[(0, .sl 1 (strE names)), (3, .ref 1), (4, .int .i64 (k : Int)), (5, .int .i64 x), (6, .ref 2), (7, .int .i64 (j : Int))], [(1, some (.row 1 (inE L))), (2, some (.row 1 (inE ((L.take j).filter fun y => decide (y < x)))))], 3⟩) (fun j => j ≤ L.length) (fun j => L.length - j) 0 (Nat.zero_le _) ?_ ?_ ?_
   ·(refine z01 (by rfl) ?_ ?_) <;> (repeat' (first | (exact eqA) | (refine shE ?_) | (refine And.intro ?_ ?_))) <;> first | rfl | decide
   ·intro j hj
    by_cases hjl : j < L.length
    ·have f2 : (j : Int) < ((L.length : Nat) : Int) := by omega
     have gj := zbh hjl
     have hfn := z7p (p := fun y => decide (y < x)) hjl
     have hfl := List.length_filter_le (fun y => decide (y < x)) (L.take j)
     rw [List.length_take] at hfl
     generalize (L.take j).filter (fun y => decide (y < x)) = F at *
     have hF := z3z F
     generalize L[j] = y at *
     by_cases hy : y < x
     ·rw [if_pos (decide_eq_true hy)] at hfn
      have happ := z82 F y
      repeat ((try conv => whnf); first | (with_reducible first | refine z0a (fun Qs hN hE hR => ?_) | refine z08 ?_ | refine z00 (fun Qb kN kE kX kR => ?_) | refine z03 ?_ | refine z04 ?_ | refine z09 ?_ | refine z05 ?_ | refine z06 ?_ | (show W _ _ _ (.cond _ _ _) _ _; refine z02 rfl ?_) | (refine hN _ ?_; try clear hN hE hR Qs) | ((first | refine hE _ _ ?_ | refine hR _ ?_); try clear hN hE hR Qs) | ((first | refine kN _ ?_ | refine kE _ ?_ | refine kX _ _ rfl ?_ | refine kR _ ?_); try clear kN kE kX kR Qb)) | (refine Exists.intro L.length (And.intro hL ?_)) | (refine z0d f2 ?_) | (refine Exists.intro _ (And.intro gj ?_)) | (refine i_at gj ?_) | (refine z0d hy ?_) | (refine And.intro (by simp only [List.length_append, List.length_set, List.length_replicate, List.length_cons, List.length_nil]; omega) ?_) | (refine And.intro (by kernel_rfl) ?_) | (refine stpQ ?_))
      refine ⟨j + 1, hjl, by omega, ?_⟩
      rw [hfn, happ]
      (refine z01 (by rfl) ?_ ?_) <;> (repeat' (first | (exact eqA) | (refine shE ?_) | (refine And.intro ?_ ?_))) <;> rfl
     ·rw [if_neg (by simpa using hy), List.append_nil] at hfn
      repeat ((try conv => whnf); first | (with_reducible first | refine z0a (fun Qs hN hE hR => ?_) | refine z08 ?_ | refine z00 (fun Qb kN kE kX kR => ?_) | refine z03 ?_ | refine z04 ?_ | refine z09 ?_ | refine z05 ?_ | refine z06 ?_ | (show W _ _ _ (.cond _ _ _) _ _; refine z02 rfl ?_) | (refine hN _ ?_; try clear hN hE hR Qs) | ((first | refine hE _ _ ?_ | refine hR _ ?_); try clear hN hE hR Qs) | ((first | refine kN _ ?_ | refine kE _ ?_ | refine kX _ _ rfl ?_ | refine kR _ ?_); try clear kN kE kX kR Qb)) | (refine Exists.intro L.length (And.intro hL ?_)) | (refine z0d f2 ?_) | (refine Exists.intro _ (And.intro gj ?_)) | (refine i_at gj ?_) | (refine z0e hy ?_) | (refine And.intro (by kernel_rfl) ?_) | (refine stpQ ?_))
      refine ⟨j + 1, hjl, by omega, ?_⟩
      rw [hfn]
      (refine z01 (by rfl) ?_ ?_) <;> (repeat' (first | (exact eqA) | (refine shE ?_) | (refine And.intro ?_ ?_))) <;> rfl
    ·have hje : j = L.length := by omega
     subst hje
     have f2 : ¬ ((L.length : Nat) : Int) < ((L.length : Nat) : Int) := by omega
     repeat ((try conv => whnf); first | (with_reducible first | refine z0a (fun Qs hN hE hR => ?_) | refine z08 ?_ | refine z00 (fun Qb kN kE kX kR => ?_) | refine z03 ?_ | refine z04 ?_ | refine z09 ?_ | refine z05 ?_ | refine z06 ?_ | (show W _ _ _ (.cond _ _ _) _ _; refine z02 rfl ?_) | (refine hN _ ?_; try clear hN hE hR Qs) | ((first | refine hE _ _ ?_ | refine hR _ ?_); try clear hN hE hR Qs) | ((first | refine kN _ ?_ | refine kE _ ?_ | refine kX _ _ rfl ?_ | refine kR _ ?_); try clear kN kE kX kR Qb)) | (refine Exists.intro L.length (And.intro hL ?_)) | (refine z0e f2 ?_) | (refine stpQ ?_))
     rw [List.take_length]
     (refine z01 (by rfl) ?_ ?_) <;> (repeat' (first | (exact eqA) | (refine shE ?_) | (refine And.intro ?_ ?_))) <;> rfl
   ·have hfl := List.length_filter_le (fun y => decide (y < x)) L
    obtain ⟨F, hF0⟩ : ∃ F, F = L.filter (fun y => decide (y < x)) := ⟨_, rfl⟩
    rw [← hF0] at hfl ⊢
    have hF := z3z F
    have happ := z82 F x
    repeat ((try conv => whnf); first | (with_reducible first | refine z0a (fun Qs hN hE hR => ?_) | refine z08 ?_ | refine z00 (fun Qb kN kE kX kR => ?_) | refine z03 ?_ | refine z04 ?_ | refine z09 ?_ | refine z05 ?_ | refine z06 ?_ | (show W _ _ _ (.cond _ _ _) _ _; refine z02 rfl ?_) | (refine hN _ ?_; try clear hN hE hR Qs) | ((first | refine hE _ _ ?_ | refine hR _ ?_); try clear hN hE hR Qs) | ((first | refine kN _ ?_ | refine kE _ ?_ | refine kX _ _ rfl ?_ | refine kR _ ?_); try clear kN kE kX kR Qb)) | (refine And.intro (by simp only [List.length_append, List.length_set, List.length_replicate, List.length_cons, List.length_nil]; omega) ?_) | (refine And.intro (by kernel_rfl) ?_) | (refine stpQ ?_))
    have hins : insH L x = (F ++ [x]) ++ L.filter (fun y => decide (x < y)) := by rw [hF0]; simp [insH]
    have hG1 : (F ++ [x]).length ≤ L.length + 1 := by simp; omega
    obtain ⟨G, hG⟩ : ∃ G, G = F ++ [x] := ⟨_, rfl⟩
    rw [← hG] at happ hins hG1
    clear hF0 hG
    refine z0j 4 ⟨[(0, .sl 1 (strE names)), (4, .int .i64 (k : Int)), (6, .ref 1)], [(1, some (.row 1 (inE (insH L x))))], 2⟩ Nat (fun j => ⟨[(0, .sl 1 (strE names)), (3, .ref 1), (4, .int .i64 (k : Int)), (5, .int .i64 x), (6, .ref 2), (8, .int .i64 (j : Int))], [(1, some (.row 1 (inE L))), (2, some (.row 1 (inE (G ++ (L.take j).filter fun y => decide (x < y)))))], 3⟩) (fun j => j ≤ L.length) (fun j => L.length - j) 0 (Nat.zero_le _) ?_ ?_ ?_
    ·(refine z01 (by rfl) ?_ ?_) <;> (repeat' (first | (exact eqA) | (refine shE ?_) | (refine And.intro ?_ ?_))) <;> first | rfl | (simp only [List.take_zero, List.filter_nil, List.append_nil]; rw [happ]; rfl)
    ·clear happ hF
     intro j hj
     by_cases hjl : j < L.length
     ·have f2 : (j : Int) < ((L.length : Nat) : Int) := by omega
      have gj := zbh hjl
      have hfn := z7p (p := fun y => decide (x < y)) hjl
      have hfl2 := List.length_filter_le (fun y => decide (x < y)) (L.take j)
      rw [List.length_take] at hfl2
      generalize (L.take j).filter (fun y => decide (x < y)) = F2 at *
      have hF2 := z3z (G ++ F2)
      rw [List.length_append] at hF2
      generalize L[j] = y at *
      by_cases hy : y > x
      ·rw [if_pos (decide_eq_true hy)] at hfn
       have happ := z82 (G ++ F2) y
       repeat ((try conv => whnf); first | (with_reducible first | refine z0a (fun Qs hN hE hR => ?_) | refine z08 ?_ | refine z00 (fun Qb kN kE kX kR => ?_) | refine z03 ?_ | refine z04 ?_ | refine z09 ?_ | refine z05 ?_ | refine z06 ?_ | (show W _ _ _ (.cond _ _ _) _ _; refine z02 rfl ?_) | (refine hN _ ?_; try clear hN hE hR Qs) | ((first | refine hE _ _ ?_ | refine hR _ ?_); try clear hN hE hR Qs) | ((first | refine kN _ ?_ | refine kE _ ?_ | refine kX _ _ rfl ?_ | refine kR _ ?_); try clear kN kE kX kR Qb)) | (refine Exists.intro L.length (And.intro hL ?_)) | (refine z0d f2 ?_) | (refine Exists.intro _ (And.intro gj ?_)) | (refine i_at gj ?_) | (refine z0d hy ?_) | (refine And.intro (by simp only [List.length_append, List.length_set, List.length_replicate, List.length_cons, List.length_nil]; omega) ?_) | (refine And.intro (by kernel_rfl) ?_) | (refine stpQ ?_))
       refine ⟨j + 1, hjl, by omega, ?_⟩
       rw [hfn, ← List.append_assoc, happ]
       (refine z01 (by rfl) ?_ ?_) <;> (repeat' (first | (exact eqA) | (refine shE ?_) | (refine And.intro ?_ ?_))) <;> rfl
      ·rw [if_neg (by simpa using hy), List.append_nil] at hfn
       repeat ((try conv => whnf); first | (with_reducible first | refine z0a (fun Qs hN hE hR => ?_) | refine z08 ?_ | refine z00 (fun Qb kN kE kX kR => ?_) | refine z03 ?_ | refine z04 ?_ | refine z09 ?_ | refine z05 ?_ | refine z06 ?_ | (show W _ _ _ (.cond _ _ _) _ _; refine z02 rfl ?_) | (refine hN _ ?_; try clear hN hE hR Qs) | ((first | refine hE _ _ ?_ | refine hR _ ?_); try clear hN hE hR Qs) | ((first | refine kN _ ?_ | refine kE _ ?_ | refine kX _ _ rfl ?_ | refine kR _ ?_); try clear kN kE kX kR Qb)) | (refine Exists.intro L.length (And.intro hL ?_)) | (refine z0d f2 ?_) | (refine Exists.intro _ (And.intro gj ?_)) | (refine i_at gj ?_) | (refine z0e hy ?_) | (refine And.intro (by kernel_rfl) ?_) | (refine stpQ ?_))
       refine ⟨j + 1, hjl, by omega, ?_⟩
       rw [hfn]
       (refine z01 (by rfl) ?_ ?_) <;> (repeat' (first | (exact eqA) | (refine shE ?_) | (refine And.intro ?_ ?_))) <;> rfl
     ·have hje : j = L.length := by omega
      subst hje
      have f2 : ¬ ((L.length : Nat) : Int) < ((L.length : Nat) : Int) := by omega
      repeat ((try conv => whnf); first | (with_reducible first | refine z0a (fun Qs hN hE hR => ?_) | refine z08 ?_ | refine z00 (fun Qb kN kE kX kR => ?_) | refine z03 ?_ | refine z04 ?_ | refine z09 ?_ | refine z05 ?_ | refine z06 ?_ | (show W _ _ _ (.cond _ _ _) _ _; refine z02 rfl ?_) | (refine hN _ ?_; try clear hN hE hR Qs) | ((first | refine hE _ _ ?_ | refine hR _ ?_); try clear hN hE hR Qs) | ((first | refine kN _ ?_ | refine kE _ ?_ | refine kX _ _ rfl ?_ | refine kR _ ?_); try clear kN kE kX kR Qb)) | (refine Exists.intro L.length (And.intro hL ?_)) | (refine z0e f2 ?_) | (refine stpQ ?_))
      rw [List.take_length, hins]
      (refine z01 (by rfl) ?_ ?_) <;> (repeat' (first | (exact eqA) | (refine shE ?_) | (refine And.intro ?_ ?_))) <;> rfl
    ·repeat ((try conv => whnf); first | (with_reducible first | refine z0a (fun Qs hN hE hR => ?_) | refine z08 ?_ | refine z00 (fun Qb kN kE kX kR => ?_) | refine z03 ?_ | refine z04 ?_ | refine z09 ?_ | refine z05 ?_ | refine z06 ?_ | (show W _ _ _ (.cond _ _ _) _ _; refine z02 rfl ?_) | (refine hN _ ?_; try clear hN hE hR Qs) | ((first | refine hE _ _ ?_ | refine hR _ ?_); try clear hN hE hR Qs) | ((first | refine kN _ ?_ | refine kE _ ?_ | refine kX _ _ rfl ?_ | refine kR _ ?_); try clear kN kE kX kR Qb)) | (refine stpQ ?_))
     refine ⟨k + 1, hlt, by omega, ?_⟩
     rw [hnx]
     (refine z01 (by rfl) ?_ ?_) <;> (repeat' (first | (exact eqA) | (refine shE ?_) | (refine And.intro ?_ ?_))) <;> rfl
  ·have hke : k = names.length := by omega
   subst hke
   have f1 : ¬ ((names.length : Nat) : Int) < ((names.length : Nat) : Int) := by omega
   repeat ((try conv => whnf); first | (with_reducible first | refine z0a (fun Qs hN hE hR => ?_) | refine z08 ?_ | refine z00 (fun Qb kN kE kX kR => ?_) | refine z03 ?_ | refine z04 ?_ | refine z09 ?_ | refine z05 ?_ | refine z06 ?_ | (show W _ _ _ (.cond _ _ _) _ _; refine z02 rfl ?_) | (refine hN _ ?_; try clear hN hE hR Qs) | ((first | refine hE _ _ ?_ | refine hR _ ?_); try clear hN hE hR Qs) | ((first | refine kN _ ?_ | refine kE _ ?_ | refine kX _ _ rfl ?_ | refine kR _ ?_); try clear kN kE kX kR Qb)) | (refine Exists.intro names.length (And.intro hlen ?_)) | (refine z0e f1 ?_) | (refine stpQ ?_))
   rw [List.take_length]
   (refine z01 (by rfl) ?_ ?_) <;> (repeat' (first | (exact eqA) | (refine shE ?_) | (refine And.intro ?_ ?_))) <;> rfl
 ·repeat ((try conv => whnf); first | (with_reducible first | refine z0a (fun Qs hN hE hR => ?_) | refine z08 ?_ | refine z00 (fun Qb kN kE kX kR => ?_) | refine z03 ?_ | refine z04 ?_ | refine z09 ?_ | refine z05 ?_ | refine z06 ?_ | (show W _ _ _ (.cond _ _ _) _ _; refine z02 rfl ?_) | (refine hN _ ?_; try clear hN hE hR Qs) | ((first | refine hE _ _ ?_ | refine hR _ ?_); try clear hN hE hR Qs) | ((first | refine kN _ ?_ | refine kE _ ?_ | refine kX _ _ rfl ?_ | refine kR _ ?_); try clear kN kE kX kR Qb)) | (refine stpQ ?_))
  (refine z07 (by rfl) ?_ ?_ (by rfl)) <;> (repeat' (first | (exact eqA) | (refine shE ?_) | (refine And.intro ?_ ?_))) <;> rfl
end
end Go.Proofs.YtnhcfmmdaihneaaGreatDoor
