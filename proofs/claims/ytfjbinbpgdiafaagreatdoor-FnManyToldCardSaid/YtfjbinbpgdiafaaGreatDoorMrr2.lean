/- Functions by content: the program tells whether a proof of many leads to a root. Functions by content: the program tells whether a proof of many leads to a root: the walk. -/
import Derived.Test.YtfjbinbpgdiafaaGreatDoorIxy
import Derived.Test.YtfjbinbpgdiafaaGreatDoorTt
namespace Go.Proofs.YtfjbinbpgdiafaaGreatDoor
set_option linter.unusedVariables false
set_option linter.unusedSimpArgs false
set_option linter.unusedSectionVars false
open Go.RowKit Pl
def bkE (l : List (List Lf)) : List (List T) := l.map fun v => [.sl 2 (lvE v)]
theorem z2c (l : List (List Lf)) : (bkE l).length = l.length := by simp [bkE]
theorem z2T {l : List (List Lf)} {k : Nat} (h : k < l.length) : (bkE l)[k]? = some [.sl 2 (lvE l[k])] := by simp [bkE, List.getElem?_eq_getElem h]
theorem z1T {l : List Bs} {k : Nat} (h : k < l.length) : (strE l)[k]? = some [.str l[k]] := by simp [strE, List.getElem?_eq_getElem h]
theorem z1H (l : List Bs) (x : Bs) : strE (l ++ [x]) = strE l ++ [[.str x]] := by simp [strE]
section
attribute [local irreducible] z0t z0u z0A AnsP LeP W CvE
set_option maxRecDepth 100000 in
set_option maxHeartbeats 4000000 in
theorem z5B (names : List Bs) (hn : names.length ≤ 1048576) (hl : ∀ s ∈ names, (s.length : Int) ≤ 100000000) : CT Tryz.prog 58 [] [.sl 1 (strE names)] (.bool (z0N names)) [] := by
 have hlen := z0h names
 have key : z0N names = true → ∀ i (h : i < names.length), z0E names[i] = true ∧ i < 8 := fun h i hi => by
  simp only [z0N, Bool.and_eq_true, List.all_eq_true, decide_eq_true_eq] at h
  exact ⟨h.1 _ (List.getElem_mem hi), by omega⟩
 have kn : (∀ i (h : i < names.length), z0E names[i] = true ∧ i < 8) → z0N names = decide ((names.length : Int) > 0) := fun h => by
  have h8 : names.length ≤ 8 := by
   rcases Nat.eq_zero_or_pos names.length with h0 | h0
   ·omega
   ·have := (h (names.length - 1) (by omega)).2
    omega
  have ha : names.all z0E = true := by
   rw [List.all_eq_true]
   intro x hx
   obtain ⟨j, hj, rfl⟩ := List.getElem_of_mem hx
   exact (h j hj).1
  unfold z0N
  rw [ha, Bool.true_and]
  by_cases h0 : 1 ≤ names.length
  ·rw [decide_eq_true ⟨h0, h8⟩, decide_eq_true (by omega)]
  ·rw [decide_eq_false (fun c => h0 c.1), decide_eq_false (by omega)]
 generalize hB : z0N names = B at key kn
 refine z0b z5r 1 rfl Tryz.func58 rfl rfl rfl ?_
 conv => arg 6; whnf
 repeat ((try conv => whnf); first | (with_reducible first | refine z0a (fun Qs hN hE hR => ?_) | refine z08 ?_ | refine z00 (fun Qb kN kE kX kR => ?_) | refine z04 ?_ | refine z05 ?_ | refine z09 ?_ | refine z06 ?_ | refine z07 ?_ | (show W _ _ _ (.cond _ _ _) _ _; refine z03 rfl ?_) | (refine hN _ ?_; try clear hN hE hR Qs; (try (conv => arg 6; dsimp only [ovl, List.set, List.map, ren0]))) | ((first | refine hE _ _ ?_ | refine hR _ ?_); try clear hN hE hR Qs) | ((first | refine kN _ ?_ | refine kE _ ?_ | refine kX _ _ rfl ?_ | refine kR _ ?_); try clear kN kE kX kR Qb)) | (refine Exists.intro names.length (And.intro hlen ?_)) | (refine stpQ ?_))
 refine z1o Nat (fun i => ⟨[(0, .sl 1 (strE names)), (5, .sl 1 (strE names)), (6, .int .i64 ((names.length : Nat) : Int)), (7, .int .i64 (i : Int))], [], 1⟩) (fun i => i ≤ names.length ∧ ∀ j (h : j < names.length), j < i → z0E names[j] = true ∧ j < 8) (fun i => names.length - i) 0 ⟨Nat.zero_le _, fun j _ h => absurd h (Nat.not_lt_zero _)⟩ ?_ ?_
 ·(refine z01 (by rfl) ?_ ?_) <;> (repeat' (first | (exact eqA) | (refine And.intro ?_ ?_) | ((fail_if_success (with_reducible (show _ = _))); (show _ = _)))) <;> first | rfl | decide
 ·intro Q1 hQ1 i hx
  obtain ⟨hi, hj⟩ := hx
  by_cases hlt : i < names.length
  ·have f1 : (i : Int) < ((names.length : Nat) : Int) := by omega
   have g := z1T hlt
   have cN := zab names[i] (by have := hl _ (List.getElem_mem hlt); omega)
   by_cases h8 : i < 8
   ·have f2 : ¬ (i : Int) ≥ 8 := by omega
    cases ho : z0E names[i] with
    | true =>
      rw [ho] at cN
      have hj2 : ∀ j (h : j < names.length), j < i + 1 → z0E names[j] = true ∧ j < 8 := fun j h hji => by
       by_cases he : j < i
       ·exact hj j h he
       ·obtain rfl : j = i := by omega
        exact ⟨ho, h8⟩
      clear key kn
      generalize names[i] = u at g cN
      repeat ((try conv => whnf); first | (with_reducible first | refine z0a (fun Qs hN hE hR => ?_) | refine z08 ?_ | refine z00 (fun Qb kN kE kX kR => ?_) | refine z04 ?_ | refine z05 ?_ | refine z09 ?_ | refine z06 ?_ | refine z07 ?_ | (show W _ _ _ (.cond _ _ _) _ _; refine z03 rfl ?_) | (refine hN _ ?_; try clear hN hE hR Qs; (try (conv => arg 6; dsimp only [ovl, List.set, List.map, ren0]))) | ((first | refine hE _ _ ?_ | refine hR _ ?_); try clear hN hE hR Qs) | ((first | refine kN _ ?_ | refine kE _ ?_ | refine kX _ _ rfl ?_ | refine kR _ ?_); try clear kN kE kX kR Qb)) | (refine z0c f1 ?_) | (refine i_at g ?_) | (refine z0d f2 ?_) | (refine ccA ([]) (cN) ?_) | (refine And.intro (by kernel_rfl) ?_) | (refine stpQ ?_))
      refine ⟨i + 1, ⟨hlt, hj2⟩, by omega, ?_⟩
      (refine z01 (by rfl) ?_ ?_) <;> (repeat' (first | (exact eqA) | (refine And.intro ?_ ?_) | ((fail_if_success (with_reducible (show _ = _))); (show _ = _)))) <;> rfl
    | false =>
      rw [ho] at cN
      obtain rfl : B = false := by
       cases B with
       | false => rfl
       | true => have := (key rfl i hlt).1; rw [ho] at this; cases this
      clear key kn
      generalize names[i] = u at g cN
      repeat ((try conv => whnf); first | (with_reducible first | refine z0a (fun Qs hN hE hR => ?_) | refine z08 ?_ | refine z00 (fun Qb kN kE kX kR => ?_) | refine z04 ?_ | refine z05 ?_ | refine z09 ?_ | refine z06 ?_ | refine z07 ?_ | (show W _ _ _ (.cond _ _ _) _ _; refine z03 rfl ?_) | (refine hN _ ?_; try clear hN hE hR Qs; (try (conv => arg 6; dsimp only [ovl, List.set, List.map, ren0]))) | ((first | refine hE _ _ ?_ | refine hR _ ?_); try clear hN hE hR Qs) | ((first | refine kN _ ?_ | refine kE _ ?_ | refine kX _ _ rfl ?_ | refine kR _ ?_); try clear kN kE kX kR Qb)) | (refine z0c f1 ?_) | (refine i_at g ?_) | (refine z0d f2 ?_) | (refine ccA ([]) (cN) ?_) | (refine And.intro (by kernel_rfl) ?_) | (refine stpQ ?_))
      refine hQ1 _ _ ?_
      clear hQ1 Q1
      repeat ((try conv => whnf); first | (with_reducible first | refine z0a (fun Qs hN hE hR => ?_) | refine z08 ?_ | refine z00 (fun Qb kN kE kX kR => ?_) | refine z04 ?_ | refine z05 ?_ | refine z09 ?_ | refine z06 ?_ | refine z07 ?_ | (show W _ _ _ (.cond _ _ _) _ _; refine z03 rfl ?_) | (refine hN _ ?_; try clear hN hE hR Qs; (try (conv => arg 6; dsimp only [ovl, List.set, List.map, ren0]))) | ((first | refine hE _ _ ?_ | refine hR _ ?_); try clear hN hE hR Qs) | ((first | refine kN _ ?_ | refine kE _ ?_ | refine kX _ _ rfl ?_ | refine kR _ ?_); try clear kN kE kX kR Qb)) | (refine stpQ ?_))
      (refine z02 (by rfl) ?_ ?_ (by rfl)) <;> (repeat' (first | (exact eqA) | (refine And.intro ?_ ?_) | ((fail_if_success (with_reducible (show _ = _))); (show _ = _))))
   ·have f2 : (i : Int) ≥ 8 := by omega
    obtain rfl : B = false := by
     cases B with
     | false => rfl
     | true => have := (key rfl i hlt).2; omega
    clear key kn
    generalize names[i] = u at g cN
    repeat ((try conv => whnf); first | (with_reducible first | refine z0a (fun Qs hN hE hR => ?_) | refine z08 ?_ | refine z00 (fun Qb kN kE kX kR => ?_) | refine z04 ?_ | refine z05 ?_ | refine z09 ?_ | refine z06 ?_ | refine z07 ?_ | (show W _ _ _ (.cond _ _ _) _ _; refine z03 rfl ?_) | (refine hN _ ?_; try clear hN hE hR Qs; (try (conv => arg 6; dsimp only [ovl, List.set, List.map, ren0]))) | ((first | refine hE _ _ ?_ | refine hR _ ?_); try clear hN hE hR Qs) | ((first | refine kN _ ?_ | refine kE _ ?_ | refine kX _ _ rfl ?_ | refine kR _ ?_); try clear kN kE kX kR Qb)) | (refine z0c f1 ?_) | (refine i_at g ?_) | (refine z0c f2 ?_) | (refine And.intro (by kernel_rfl) ?_) | (refine stpQ ?_))
    refine hQ1 _ _ ?_
    clear hQ1 Q1
    repeat ((try conv => whnf); first | (with_reducible first | refine z0a (fun Qs hN hE hR => ?_) | refine z08 ?_ | refine z00 (fun Qb kN kE kX kR => ?_) | refine z04 ?_ | refine z05 ?_ | refine z09 ?_ | refine z06 ?_ | refine z07 ?_ | (show W _ _ _ (.cond _ _ _) _ _; refine z03 rfl ?_) | (refine hN _ ?_; try clear hN hE hR Qs; (try (conv => arg 6; dsimp only [ovl, List.set, List.map, ren0]))) | ((first | refine hE _ _ ?_ | refine hR _ ?_); try clear hN hE hR Qs) | ((first | refine kN _ ?_ | refine kE _ ?_ | refine kX _ _ rfl ?_ | refine kR _ ?_); try clear kN kE kX kR Qb)) | (refine stpQ ?_))
    (refine z02 (by rfl) ?_ ?_ (by rfl)) <;> (repeat' (first | (exact eqA) | (refine And.intro ?_ ?_) | ((fail_if_success (with_reducible (show _ = _))); (show _ = _))))
  ·have hie : i = names.length := by omega
   subst hie
   have f1 : ¬ ((names.length : Nat) : Int) < ((names.length : Nat) : Int) := by omega
   have hB2 := kn (fun j h => hj j h h)
   repeat ((try conv => whnf); first | (with_reducible first | refine z0a (fun Qs hN hE hR => ?_) | refine z08 ?_ | refine z00 (fun Qb kN kE kX kR => ?_) | refine z04 ?_ | refine z05 ?_ | refine z09 ?_ | refine z06 ?_ | refine z07 ?_ | (show W _ _ _ (.cond _ _ _) _ _; refine z03 rfl ?_) | (refine hN _ ?_; try clear hN hE hR Qs; (try (conv => arg 6; dsimp only [ovl, List.set, List.map, ren0]))) | ((first | refine hE _ _ ?_ | refine hR _ ?_); try clear hN hE hR Qs) | ((first | refine kN _ ?_ | refine kE _ ?_ | refine kX _ _ rfl ?_ | refine kR _ ?_); try clear kN kE kX kR Qb)) | (refine z0d f1 ?_) | (refine stpQ ?_))
   refine hQ1 _ _ ?_
   clear hQ1 Q1
   repeat ((try conv => whnf); first | (with_reducible first | refine z0a (fun Qs hN hE hR => ?_) | refine z08 ?_ | refine z00 (fun Qb kN kE kX kR => ?_) | refine z04 ?_ | refine z05 ?_ | refine z09 ?_ | refine z06 ?_ | refine z07 ?_ | (show W _ _ _ (.cond _ _ _) _ _; refine z03 rfl ?_) | (refine hN _ ?_; try clear hN hE hR Qs; (try (conv => arg 6; dsimp only [ovl, List.set, List.map, ren0]))) | ((first | refine hE _ _ ?_ | refine hR _ ?_); try clear hN hE hR Qs) | ((first | refine kN _ ?_ | refine kE _ ?_ | refine kX _ _ rfl ?_ | refine kR _ ?_); try clear kN kE kX kR Qb)) | (refine Exists.intro names.length (And.intro hlen ?_)) | (refine stpQ ?_))
   (refine z02 (by rfl) ?_ ?_ (by rfl)) <;> (repeat' (first | (exact eqA) | (refine And.intro ?_ ?_) | ((fail_if_success (with_reducible (show _ = _))); (show _ = _)))) <;> first | rfl | exact hB2.symm
end
end Go.Proofs.YtfjbinbpgdiafaaGreatDoor
namespace Go.Proofs.YtfjbinbpgdiafaaGreatDoor
set_option linter.unusedVariables false
set_option linter.unusedSimpArgs false
set_option linter.unusedSectionVars false
open Go.RowKit Pl
def exM : List (Nat × Ty) := [
 (52, ⟨3, 72, [.val nilV, .val nilV, .val nilV], .struct [(0, 37), (1, 27), (2, 37)], false⟩),
 (3, zdA)]
set_option maxRecDepth 100000 in
set_option maxHeartbeats 8000000 in
theorem zd0 : ∀ p ∈ exM, TyOk Tryz.prog p.1 p.2 := by
 simp only [exM, List.forall_mem_cons]
 repeat' (refine And.intro ?_ ?_)
 all_goals first
  | exact (fun _ h => by cases h)
  | exact ⟨⟨_, _, rfl, rfl, rfl, rfl, rfl⟩, ⟨_, rfl, rfl⟩, rfl, rfl, fun h => (Bool.false_ne_true h).elim⟩
def ttLM : List (Nat × Ty) := ttLE ++ exM
def ttM : TT := lk ttLM
theorem z0p : TtOk Tryz.prog ttM := fun t y h => by
 have hm : (t, y) ∈ ttLM := z18 h
 rcases List.mem_append.1 hm with h | h
 ·rcases List.mem_append.1 h with h | h
  ·exact z6m (t, y) h
  ·exact z94 (t, y) h
 ·exact zd0 (t, y) h
theorem z7o {α : Type} {es : List α} {K : Nat → α → Prop} {e : α} (h : es[0]? = some e) (hk : K 0 e) : ∃ (i : Nat) (e : α), (0 : Int) = i ∧ es[i]? = some e ∧ K i e := ⟨0, e, rfl, h, hk⟩
theorem z7p {m : Nat} {K : Nat → Prop} (h : 1 ≤ m) (hk : K 1) : ∃ i : Nat, (1 : Int) = i ∧ i ≤ m ∧ K i := ⟨1, rfl, h, hk⟩
theorem z5G : ∀ (hs a : List Int), ∀ x, x ∈ a ∨ x ∈ hs → x ∈ hs.foldl addH a
 | [], a, x, h => h.elim id fun h => by cases h
 | y :: hs, a, x, h => by
   rw [List.foldl_cons]
   refine z5G hs _ x ?_
   rcases h with h | h
   ·exact .inl (z78.2 (.inl h))
   ·rcases List.mem_cons.1 h with rfl | h
    ·exact .inl (z78.2 (.inr rfl))
    ·exact .inr h
theorem z9j {names : List Bs} (h : names ≠ []) : ixsN names ≠ [] := fun c => by
 obtain ⟨s, l, rfl⟩ : ∃ s l, names = s :: l := by
  cases names with
  | nil => exact absurd rfl h
  | cons s l => exact ⟨s, l, rfl⟩
 have h1 := z5G ((s :: l).map fun s => (ixB s : Int)) [] (ixB s : Int) (.inr (by simp))
 have h2 := (z3n ((s :: l).map fun s => (ixB s : Int)) [] [] List.Pairwise.nil (List.Perm.refl _)).2
 have h3 : (ixB s : Int) ∈ ixsI (s :: l) := h2.mem_iff.2 h1
 have h4 : (ixB s : Int).toNat ∈ ixsN (s :: l) := List.mem_map_of_mem h3
 rw [c] at h4
 cases h4
theorem zbf {a b : Bs} (ha : a.length ≤ 32) (hb : b.length ≤ 32) : z1S [a, b] := ⟨by simp, fun p h => by
 simp only [List.mem_cons, List.not_mem_nil, or_false] at h
 rcases h with rfl | rfl <;> omega⟩
theorem zex {P : Program} {f : FuncId} {He He' : List Ent} {ts : List T} {a b : T} (h : CT P f He ts (.tup [a, b]) He') : CT P f He ts (.tup [.any, b]) He' :=
 ⟨h.1, fun X hh hH hu vs ha => (h.2 X hh hH hu vs ha).mono (by
   rintro e w' ⟨v, X', rfl, rfl, h1, h2, h3, h4, h5⟩
   refine ⟨v, X', rfl, rfl, h1, h2, h3, ?_, h5⟩
   obtain ⟨us, e1, u, us', e2, _, h6⟩ := h4
   exact ⟨us, e1, u, us', e2, trivial, h6⟩)⟩
end Go.Proofs.YtfjbinbpgdiafaaGreatDoor
