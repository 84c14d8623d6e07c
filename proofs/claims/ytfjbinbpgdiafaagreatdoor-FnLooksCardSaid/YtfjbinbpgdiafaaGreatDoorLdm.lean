/- Functions by content: disks drawn. Functions by content: a shard drawn and spoiled. -/
import Derived.Test.YtfjbinbpgdiafaaGreatDoorDk
import Derived.Test.YtfjbinbpgdiafaaGreatDoorFc
import Derived.Test.YtfjbinbpgdiafaaGreatDoorLsw
import Derived.Test.YtfjbinbpgdiafaaGreatDoorSva
import Derived.Test.YtfjbinbpgdiafaaGreatDoorCB
import Derived.Test.YtfjbinbpgdiafaaGreatDoorLok
namespace Go.Proofs.YtfjbinbpgdiafaaGreatDoor
set_option maxRecDepth 100000
set_option maxHeartbeats 32000000
set_option linter.unusedVariables false
set_option linter.unusedSimpArgs false
set_option linter.unusedSectionVars false
open Go.RowKit Pl
theorem i_atzL {α : Type} {es : List α} {K : Nat → α → Prop} {e : α} (h : es[0]? = some e) (hk : K 0 e) : ∃ (i : Nat) (e : α), (0 : Int) = i ∧ es[i]? = some e ∧ K i e := ⟨0, e, rfl, h, hk⟩
inductive TxR (c : Bs) : Nat → List Bs → Nat → Int → List Bs → Nat → Int → Prop
 | stop {k l i h x i' h'} : i' ≤ c.length → x ≤ k → CT Tryz.prog 71 [curE c i h] [.ptr 1 0 0, .int .i64 5] (.int .i64 ((x : Nat) : Int)) [curE c i' h'] → TxR c k l i h l i' h'
 | step {k l i h x i1 h1 y i2 h2 m s i3 h3 l' i' h'} : x < 5 → k < x → CT Tryz.prog 71 [curE c i h] [.ptr 1 0 0, .int .i64 5] (.int .i64 ((x : Nat) : Int)) [curE c i1 h1] → y < 9 → CT Tryz.prog 71 [curE c i1 h1] [.ptr 1 0 0, .int .i64 9] (.int .i64 ((y : Nat) : Int)) [curE c i2 h2] → m = 1 + y →
    CT Tryz.prog 134 [curE c i2 h2] [.ptr 1 0 0, .int .i64 ((m : Nat) : Int)] (.str s) [curE c i3 h3] →
    TxR c (k + 1) (l ++ [s]) i3 h3 l' i' h' → TxR c k l i h l' i' h'
theorem zg9 (c : Bs) (hc : (c.length : Int) ≤ 1048576) : ∀ (f k : Nat) (l : List Bs) (i : Nat) (h : Int), k + f = 5 → i ≤ c.length → (∀ s ∈ l, 1 ≤ s.length ∧ s.length ≤ 9) → l.length = k →
 ∃ l' i' h', TxR c k l i h l' i' h' ∧ ((∀ s ∈ l', 1 ≤ s.length ∧ s.length ≤ 9) ∧ l'.length ≤ 5) ∧ i' ≤ c.length
 | f, k, l, i, h, hf, hi, ho, hl => by
   obtain ⟨x, i1, h1, hx, hi1, cb⟩ := z24 c i h 5 hc hi (by omega)
   by_cases hk : k < x
   ·obtain ⟨y, i2, h2, hy, hi2, cy⟩ := z24 c i1 h1 9 hc hi1 (by omega)
    obtain ⟨s, i3, h3, hs3, hi3, cn⟩ := c_text c i2 h2 (1 + y) hc hi2 (by omega)
    cases f with
    | zero => omega
    | succ f =>
      obtain ⟨l', i', h', hd, hr, hi'⟩ := zg9 c hc f (k + 1) (l ++ [s]) i3 h3 (by omega) hi3 (fun z hz => by
       rcases List.mem_append.1 hz with hz | hz
       ·exact ho z hz
       ·rw [List.mem_singleton] at hz; subst hz; omega) (by simp [hl])
      exact ⟨l', i', h', .step hx hk cb hy cy rfl cn hd, hr, hi'⟩
   ·exact ⟨l, i1, h1, .stop hi1 (by omega) cb, ⟨ho, by omega⟩, hi1⟩
theorem zh7 (l : List Bs) (x : Bs) : strE (l ++ [x]) = strE l ++ [[.str x]] := by simp [strE]
theorem zh8 {l : List Bs} {k : Nat} (h : k < l.length) : (strE l)[k]? = some [.str (l.getD k [])] := by simp [strE, List.getElem?_eq_getElem h, List.getD]
def logN : Bs := [108, 111, 103]
section
attribute [local irreducible] z0r z0s z0z AnsP LeP W CvE z0A
theorem zcn (c : Bs) (i : Nat) (h : Int) (hc : (c.length : Int) ≤ 1048576) (hi : i ≤ c.length) : ∃ (l : List Bs) (i' : Nat) (h' : Int), ((∀ s ∈ l, 1 ≤ s.length ∧ s.length ≤ 9) ∧ l.length ≤ 5) ∧ i' ≤ c.length ∧ CT Tryz.prog 184 [curE c i h] [.ptr 1 0 0] (.sl 1 (strE l)) [curE c i' h'] := by
 obtain ⟨L, i', h', hd, hr, hi'⟩ := zg9 c hc 5 0 [] i h rfl hi (fun x hx => by cases hx) rfl
 refine ⟨L, i', h', hr, hi', ?_⟩
 refine z01 z0i 2 rfl Tryz.func184 rfl rfl rfl ?_
 conv => arg 6; whnf
 repeat ((try conv => whnf); first | (with_reducible first | refine z0f (fun Qs hN hE hR => ?_) | refine z0d ?_ | refine z04 (fun Qb kN kE kX kR => ?_) | refine z06 ?_ | refine z07 ?_ | refine z0e ?_ | refine z08 ?_ | refine z09 ?_ | (show W _ _ _ (.cond _ _ _) _ _; refine z05 rfl ?_) | (refine hN _ ?_; try clear hN hE hR Qs; (try (conv => arg 6; dsimp only [ovl, List.set, List.map, ren0]))) | ((first | refine hE _ _ ?_ | refine hR _ ?_); try clear hN hE hR Qs) | ((first | refine kN _ ?_ | refine kE _ ?_ | refine kX _ _ rfl ?_ | refine kR _ ?_); try clear kN kE kX kR Qb)) | (refine And.intro (by kernel_rfl) ?_) | (refine stpQ ?_))
 refine z3V (Nat × List Bs × Nat × Int) (fun x => ⟨[(0, .ptr 1 0 0), (3, .ref 2), (4, .int .i64 (x.1 : Int))], [(1, some (curE c x.2.2.1 x.2.2.2)), (2, some (.row 1 (strE x.2.1)))], 3⟩) (fun x => TxR c x.1 x.2.1 x.2.2.1 x.2.2.2 L i' h' ∧ x.1 ≤ 5 ∧ x.2.1.length = x.1) (fun x => 5 - x.1) (0, [], i, h) ⟨hd, by omega, rfl⟩ ?_ ?_
 ·(refine z02 (by rfl) ?_ ?_) <;> (repeat' (first | (exact eqA) | (refine And.intro ?_ ?_) | ((fail_if_success (with_reducible (show _ = _))); (show _ = _)))) <;> first | rfl | decide
 ·intro Q1 hQ1 x hx
  obtain ⟨k, l, i, h⟩ := x
  obtain ⟨hd, hk, hl⟩ := hx
  dsimp only at hd hk hl ⊢
  have hll := z0H l
  cases hd with
  | @stop _ _ _ _ x _ _ hi1 hx cb =>
    have f1 : ¬ (k : Int) < ((x : Nat) : Int) := by omega
    repeat ((try conv => whnf); first | (with_reducible first | refine z0f (fun Qs hN hE hR => ?_) | refine z0d ?_ | refine z04 (fun Qb kN kE kX kR => ?_) | refine z06 ?_ | refine z07 ?_ | refine z0e ?_ | refine z08 ?_ | refine z09 ?_ | (show W _ _ _ (.cond _ _ _) _ _; refine z05 rfl ?_) | (refine hN _ ?_; try clear hN hE hR Qs; (try (conv => arg 6; dsimp only [ovl, List.set, List.map, ren0]))) | ((first | refine hE _ _ ?_ | refine hR _ ?_); try clear hN hE hR Qs) | ((first | refine kN _ ?_ | refine kE _ ?_ | refine kX _ _ rfl ?_ | refine kR _ ?_); try clear kN kE kX kR Qb)) | (refine ccB ([1]) (cb) ?_) | (refine z0c f1 ?_) | (refine And.intro (by kernel_rfl) ?_) | (refine stpQ ?_))
    refine hQ1 _ _ ?_
    clear hQ1 Q1
    repeat ((try conv => whnf); first | (with_reducible first | refine z0f (fun Qs hN hE hR => ?_) | refine z0d ?_ | refine z04 (fun Qb kN kE kX kR => ?_) | refine z06 ?_ | refine z07 ?_ | refine z0e ?_ | refine z08 ?_ | refine z09 ?_ | (show W _ _ _ (.cond _ _ _) _ _; refine z05 rfl ?_) | (refine hN _ ?_; try clear hN hE hR Qs; (try (conv => arg 6; dsimp only [ovl, List.set, List.map, ren0]))) | ((first | refine hE _ _ ?_ | refine hR _ ?_); try clear hN hE hR Qs) | ((first | refine kN _ ?_ | refine kE _ ?_ | refine kX _ _ rfl ?_ | refine kR _ ?_); try clear kN kE kX kR Qb)) | (refine And.intro (by kernel_rfl) ?_) | (refine stpQ ?_))
    (refine z00 (by rfl) ?_ ?_ (by rfl)) <;> (repeat' (first | (exact eqA) | (refine And.intro ?_ ?_) | ((fail_if_success (with_reducible (show _ = _))); (show _ = _))))
  | @step _ _ _ _ x i1 h1 y i2 h2 m s i3 h3 _ _ _ hx hkx cb hy cy hm cn hd' =>
    have e1 : ((m : Nat) : Int) = IntKind.i64.wrap (1 + ((y : Nat) : Int)) := by rw [wrap_i64 (by omega) (by omega)]; omega
    have f1 : (k : Int) < ((x : Nat) : Int) := by omega
    have happ := zh7 l s
    clear hm
    repeat ((try conv => whnf); first | (with_reducible first | refine z0f (fun Qs hN hE hR => ?_) | refine z0d ?_ | refine z04 (fun Qb kN kE kX kR => ?_) | refine z06 ?_ | refine z07 ?_ | refine z0e ?_ | refine z08 ?_ | refine z09 ?_ | (show W _ _ _ (.cond _ _ _) _ _; refine z05 rfl ?_) | (refine hN _ ?_; try clear hN hE hR Qs; (try (conv => arg 6; dsimp only [ovl, List.set, List.map, ren0]))) | ((first | refine hE _ _ ?_ | refine hR _ ?_); try clear hN hE hR Qs) | ((first | refine kN _ ?_ | refine kE _ ?_ | refine kX _ _ rfl ?_ | refine kR _ ?_); try clear kN kE kX kR Qb)) | (refine ccB ([1]) (cb) ?_) | (refine ccB ([1]) (cy) ?_) | (refine ccB ([1]) (cn) ?_) | (refine Exists.intro _ (And.intro e1 ?_)) | (refine z0h f1 ?_) | (refine And.intro (by simp only [List.length_append, List.length_set, List.length_replicate, List.length_cons, List.length_nil]; omega) ?_) | (refine And.intro (by kernel_rfl) ?_) | (refine stpQ ?_))
    refine ⟨(k + 1, l ++ [s], i3, h3), ⟨hd', by show k + 1 ≤ 5; omega, by simp [hl]⟩, (by show 5 - (k + 1) < 5 - k; omega), ?_⟩
    (try dsimp only)
    rw [happ]
    (refine z02 (by rfl) ?_ ?_) <;> (repeat' (first | (exact eqA) | (refine And.intro ?_ ?_) | ((fail_if_success (with_reducible (show _ = _))); (show _ = _)))) <;> rfl
theorem zec (c : Bs) (i : Nat) (h : Int) (hc : (c.length : Int) ≤ 1048576) (hi : i ≤ c.length) : ∃ (l : List Bs) (i' : Nat) (h' : Int), Rec 5 l ∧ i' ≤ c.length ∧ CT Tryz.prog 159 [curE c i h] [.ptr 1 0 0] (.agg [.sl 3 (flE (dkOf logN l))]) [curE c i' h'] := by
 obtain ⟨L, i', h', ⟨hr1, hr2⟩, hi', c1⟩ := zcn c i h hc hi
 refine ⟨L, i', h', ⟨hr2, fun t ht => ⟨(hr1 t ht).1, by have := (hr1 t ht).2; omega⟩⟩, hi', ?_⟩
 obtain ⟨D, hD⟩ : ∃ D : Nat → List (List T), ∀ k, D k = flE (dkOf logN (L.take k)) := ⟨_, fun _ => rfl⟩
 obtain ⟨A, hA⟩ : ∃ A : Nat → List (List T), ∀ k, A k = acE logN (z1j (L.getD k [])) := ⟨_, fun _ => rfl⟩
 have hg : ∀ k, k < L.length → 1 ≤ (L.getD k []).length ∧ (L.getD k []).length ≤ 9 := fun k hk => by
  have : L.getD k [] ∈ L := by simp [List.getD, List.getElem?_eq_getElem hk]
  exact hr1 _ this
 have cA : ∀ k, k < L.length → CT Tryz.prog 180 [] [.str [108, 111, 103], .str (L.getD k [])] (.tup [.sl 4 (A k), .bool true]) [] := fun k hk => by
  rw [hA]
  exact z90 logN (L.getD k []) (by decide) (by decide) (by have := hg k hk; omega)
 have cB : ∀ k, k < L.length → CT Tryz.prog 181 [] [.agg [.sl 3 (D k)], .sl 4 (A k)] (.tup [.agg [.sl 3 (D (k + 1))], .int .i64 2]) [] := fun k hk => by
  have e : L.take (k + 1) = L.take k ++ [L.getD k []] := by
   rw [List.take_succ_eq_append_getElem hk]
   simp [List.getD, List.getElem?_eq_getElem hk]
  rw [hA, hD, hD, e]
  exact z91 logN (L.getD k []) (L.take k) (by decide) (by have := hg k hk; omega) ⟨by rw [List.length_take]; omega, fun t ht => by have := hr1 t (List.take_subset k L ht); omega⟩
 have gL : ∀ k, k < L.length → (strE L)[k]? = some [.str (L.getD k [])] := fun k hk => zh8 hk
 have d0 : D 0 = [] := by rw [hD]; rfl
 have dL : flE (dkOf logN L) = D L.length := by rw [hD, List.take_length]
 have hll := z0H L
 rw [dL]
 clear hD hA hr1 hg dL
 generalize strE L = SL at *
 refine z01 z0i 2 rfl Tryz.func159 rfl rfl rfl ?_
 conv => arg 6; whnf
 repeat ((try conv => whnf); first | (with_reducible first | refine z0f (fun Qs hN hE hR => ?_) | refine z0d ?_ | refine z04 (fun Qb kN kE kX kR => ?_) | refine z06 ?_ | refine z07 ?_ | refine z0e ?_ | refine z08 ?_ | refine z09 ?_ | (show W _ _ _ (.cond _ _ _) _ _; refine z05 rfl ?_) | (refine hN _ ?_; try clear hN hE hR Qs; (try (conv => arg 6; dsimp only [ovl, List.set, List.map, ren0]))) | ((first | refine hE _ _ ?_ | refine hR _ ?_); try clear hN hE hR Qs) | ((first | refine kN _ ?_ | refine kE _ ?_ | refine kX _ _ rfl ?_ | refine kR _ ?_); try clear kN kE kX kR Qb)) | (refine ccB ([1]) (c1) ?_) | (refine And.intro (by kernel_rfl) ?_) | (refine stpQ ?_))
 refine z0l 0 ⟨[(2, .ptr 2 0 0), (3, .ptr 3 0 0)], [(1, some (curE c i' h')), (2, some (.box [.val nilV])), (3, some (.box [.sl 3 (D L.length)]))], 4⟩ Nat (fun k => ⟨[(2, .ptr 2 0 0), (3, .ptr 3 0 0), (4, .sl 1 SL), (5, .int .i64 (k : Int))], [(1, some (curE c i' h')), (2, some (.box [.val nilV])), (3, some (.box [.sl 3 (D k)]))], 4⟩) (fun k => k ≤ L.length) (fun k => L.length - k) 0 (Nat.zero_le _) ?_ ?_ ?_
 ·(refine z02 (by rfl) ?_ ?_) <;> (repeat' (first | (exact eqA) | (refine And.intro ?_ ?_) | ((fail_if_success (with_reducible (show _ = _))); (show _ = _)))) <;> first | rfl | exact d0 | decide
 ·intro k hk
  by_cases hlt : k < L.length
  ·have f1 : (k : Int) < (SL.length : Int) := by omega
   have f2 : k < SL.length := by omega
   have gk := gL k hlt
   have ca := cA k hlt
   have cb := cB k hlt
   repeat ((try conv => whnf); first | (with_reducible first | refine z0f (fun Qs hN hE hR => ?_) | refine z0d ?_ | refine z04 (fun Qb kN kE kX kR => ?_) | refine z06 ?_ | refine z07 ?_ | refine z0e ?_ | refine z08 ?_ | refine z09 ?_ | (show W _ _ _ (.cond _ _ _) _ _; refine z05 rfl ?_) | (refine hN _ ?_; try clear hN hE hR Qs; (try (conv => arg 6; dsimp only [ovl, List.set, List.map, ren0]))) | ((first | refine hE _ _ ?_ | refine hR _ ?_); try clear hN hE hR Qs) | ((first | refine kN _ ?_ | refine kE _ ?_ | refine kX _ _ rfl ?_ | refine kR _ ?_); try clear kN kE kX kR Qb)) | (refine z0h f1 ?_) | (refine i_at gk ?_) | (refine And.intro f2 ?_) | (refine Exists.intro _ (And.intro gk ?_)) | (refine ccA ([]) (ca) ?_) | (refine ccA ([]) (cb) ?_) | (refine And.intro (by kernel_rfl) ?_) | (refine stpQ ?_))
   refine ⟨k + 1, (by (try dsimp only); omega), (by (try dsimp only); omega), ?_⟩
   (refine z02 (by rfl) ?_ ?_) <;> (repeat' (first | (exact eqA) | (refine And.intro ?_ ?_) | ((fail_if_success (with_reducible (show _ = _))); (show _ = _)))) <;> rfl
  ·obtain rfl : k = L.length := by omega
   have f1 : ¬ (L.length : Int) < (SL.length : Int) := by omega
   repeat ((try conv => whnf); first | (with_reducible first | refine z0f (fun Qs hN hE hR => ?_) | refine z0d ?_ | refine z04 (fun Qb kN kE kX kR => ?_) | refine z06 ?_ | refine z07 ?_ | refine z0e ?_ | refine z08 ?_ | refine z09 ?_ | (show W _ _ _ (.cond _ _ _) _ _; refine z05 rfl ?_) | (refine hN _ ?_; try clear hN hE hR Qs; (try (conv => arg 6; dsimp only [ovl, List.set, List.map, ren0]))) | ((first | refine hE _ _ ?_ | refine hR _ ?_); try clear hN hE hR Qs) | ((first | refine kN _ ?_ | refine kE _ ?_ | refine kX _ _ rfl ?_ | refine kR _ ?_); try clear kN kE kX kR Qb)) | (refine z0c f1 ?_) | (refine And.intro (by kernel_rfl) ?_) | (refine stpQ ?_))
   (refine z02 (by rfl) ?_ ?_) <;> (repeat' (first | (exact eqA) | (refine And.intro ?_ ?_) | ((fail_if_success (with_reducible (show _ = _))); (show _ = _)))) <;> rfl
 ·repeat ((try conv => whnf); first | (with_reducible first | refine z0f (fun Qs hN hE hR => ?_) | refine z0d ?_ | refine z04 (fun Qb kN kE kX kR => ?_) | refine z06 ?_ | refine z07 ?_ | refine z0e ?_ | refine z08 ?_ | refine z09 ?_ | (show W _ _ _ (.cond _ _ _) _ _; refine z05 rfl ?_) | (refine hN _ ?_; try clear hN hE hR Qs; (try (conv => arg 6; dsimp only [ovl, List.set, List.map, ren0]))) | ((first | refine hE _ _ ?_ | refine hR _ ?_); try clear hN hE hR Qs) | ((first | refine kN _ ?_ | refine kE _ ?_ | refine kX _ _ rfl ?_ | refine kR _ ?_); try clear kN kE kX kR Qb)) | (refine And.intro (by kernel_rfl) ?_) | (refine stpQ ?_))
  (refine z00 (by rfl) ?_ ?_ (by rfl)) <;> (repeat' (first | (exact eqA) | (refine And.intro ?_ ?_) | ((fail_if_success (with_reducible (show _ = _))); (show _ = _)))) <;> rfl
theorem zh9 {l : List Bs} (h : Rec 5 l) : FlB (dkOf logN l) ∧ z1t (dkOf logN l) = true := ⟨z67 (n := logN) (by decide) (h.up (by decide)), zfd (n := logN) (by decide) (h.up (by decide))⟩
theorem dk_new {l : List Bs} (h : Rec 5 l) : z1t (addF (dkOf logN l) [110, 101, 119] [120]) = true ∧ FlB (addF (dkOf logN l) [110, 101, 119] [120]) := by
 have hl := h.len
 by_cases e : l = []
 ·subst e
  exact ⟨by decide, z9Z (by decide) (by decide)⟩
 ·rw [z3g e]
  have e2 : addF [(logN, logB l, ((logB l).length : Int))] [110, 101, 119] [120] = [(logN, logB l, ((logB l).length : Int)), ([110, 101, 119], [120], 0)] := rfl
  rw [e2]
  refine ⟨z1S (by simp) fun k hk => ?_, ?_⟩
  ·rcases (show k = 0 ∨ k = 1 by simp at hk; omega) with rfl | rfl
   ·have e1 : flAt [(logN, logB l, ((logB l).length : Int)), ([110, 101, 119], [120], 0)] 0 = (logN, logB l, ((logB l).length : Int)) := rfl
    have e9 : logN.length = 3 := rfl
    rw [z23, e1]
    simp only [Bool.and_eq_true, decide_eq_true_eq, inB, beq_self_eq_true, Bool.true_or, and_true, e9]
    omega
   ·rfl
  ·refine ⟨by simp, fun k => ?_⟩
   match k with
   | 0 => exact ⟨by show logN.length ≤ 30000; decide, by show (logB l).length ≤ 30000; omega⟩
   | 1 => exact ⟨by show ([110, 101, 119] : Bs).length ≤ 30000; decide, by show ([120] : Bs).length ≤ 30000; decide⟩
   | k + 2 => exact ⟨Nat.zero_le _, Nat.zero_le _⟩
theorem zfp (c : Bs) (i : Nat) (h : Int) (hc : (c.length : Int) ≤ 1048576) (hi : i ≤ c.length) : ∃ (fs : List Fl) (i' : Nat) (h' : Int), i' ≤ c.length ∧ CT Tryz.prog 112 [curE c i h] [.ptr 1 0 0] (.agg [.sl 3 (flE fs)]) [curE c i' h'] := by
 obtain ⟨x, i1, h1, hx, hi1, cx⟩ := z24 c i h 10 hc hi (by decide)
 obtain ⟨l, i2, h2, hl, hi2, cd⟩ := zec c i1 h1 hc hi1
 have hB := zh9 hl
 have hN := dk_new hl
 have cN := zea (dkOf logN l) [110, 101, 119] [120] hB.2 hB.1 (by decide) (by decide) hN.1 hN.2
 have hfl := z2o (dkOf logN l)
 have hdl : (dkOf logN l).length ≤ 1000 := hB.1.1
 by_cases hle : l = []
 ·subst hle
  have g0 : ¬ (((flE (dkOf logN [])).length : Nat) : Int) > 0 := by decide
  have z0 : ¬ (0 : Int) > 0 := by decide
  by_cases x3 : x = 3
  ·refine ⟨[([97], [], 5)], i2, h2, hi2, ?_⟩
   have f3 : ((x : Nat) : Int) = 3 := by omega
   have f4 : ¬ ((x : Nat) : Int) = 4 := by omega
   clear hB hN cN hfl hdl hl
   refine z01 z0i 2 rfl Tryz.func112 rfl rfl rfl ?_
   conv => arg 6; whnf
   repeat ((try conv => whnf); first | (with_reducible first | refine z0f (fun Qs hN hE hR => ?_) | refine z0d ?_ | refine z04 (fun Qb kN kE kX kR => ?_) | refine z06 ?_ | refine z07 ?_ | refine z0e ?_ | refine z08 ?_ | refine z09 ?_ | (show W _ _ _ (.cond _ _ _) _ _; refine z05 rfl ?_) | (refine hN _ ?_; try clear hN hE hR Qs; (try (conv => arg 6; dsimp only [ovl, List.set, List.map, ren0]))) | ((first | refine hE _ _ ?_ | refine hR _ ?_); try clear hN hE hR Qs) | ((first | refine kN _ ?_ | refine kE _ ?_ | refine kX _ _ rfl ?_ | refine kR _ ?_); try clear kN kE kX kR Qb)) | (refine ccB ([1]) (cx) ?_) | (refine ccB ([1]) (cd) ?_) | (refine z0c g0 ?_) | (refine z0c z0 ?_) | (refine z0h f3 ?_) | (refine z0c f4 ?_) | (refine And.intro (by simp only [List.length_append, List.length_set, List.length_replicate, List.length_cons, List.length_nil]; omega) ?_) | (refine And.intro (by kernel_rfl) ?_) | (refine stpQ ?_))
   (refine z00 (by rfl) ?_ ?_ (by rfl)) <;> (repeat' (first | (exact eqA) | (refine And.intro ?_ ?_) | ((fail_if_success (with_reducible (show _ = _))); (show _ = _)))) <;> rfl
  by_cases x4 : x = 4
  ·refine ⟨addF (dkOf logN []) [110, 101, 119] [120], i2, h2, hi2, ?_⟩
   have f3 : ¬ ((x : Nat) : Int) = 3 := by omega
   have f4 : ((x : Nat) : Int) = 4 := by omega
   generalize addF (dkOf logN []) [110, 101, 119] [120] = R at *
   clear hB hN hfl hdl hl
   refine z01 z0i 2 rfl Tryz.func112 rfl rfl rfl ?_
   conv => arg 6; whnf
   repeat ((try conv => whnf); first | (with_reducible first | refine z0f (fun Qs hN hE hR => ?_) | refine z0d ?_ | refine z04 (fun Qb kN kE kX kR => ?_) | refine z06 ?_ | refine z07 ?_ | refine z0e ?_ | refine z08 ?_ | refine z09 ?_ | (show W _ _ _ (.cond _ _ _) _ _; refine z05 rfl ?_) | (refine hN _ ?_; try clear hN hE hR Qs; (try (conv => arg 6; dsimp only [ovl, List.set, List.map, ren0]))) | ((first | refine hE _ _ ?_ | refine hR _ ?_); try clear hN hE hR Qs) | ((first | refine kN _ ?_ | refine kE _ ?_ | refine kX _ _ rfl ?_ | refine kR _ ?_); try clear kN kE kX kR Qb)) | (refine ccB ([1]) (cx) ?_) | (refine ccB ([1]) (cd) ?_) | (refine z0c g0 ?_) | (refine z0c z0 ?_) | (refine z0c f3 ?_) | (refine z0h f4 ?_) | (refine ccA ([]) (cN) ?_) | (refine And.intro (by simp only [List.length_append, List.length_set, List.length_replicate, List.length_cons, List.length_nil]; omega) ?_) | (refine And.intro (by kernel_rfl) ?_) | (refine stpQ ?_))
   (refine z00 (by rfl) ?_ ?_ (by rfl)) <;> (repeat' (first | (exact eqA) | (refine And.intro ?_ ?_) | ((fail_if_success (with_reducible (show _ = _))); (show _ = _)))) <;> rfl
  ·refine ⟨dkOf logN [], i2, h2, hi2, ?_⟩
   have f3 : ¬ ((x : Nat) : Int) = 3 := by omega
   have f4 : ¬ ((x : Nat) : Int) = 4 := by omega
   clear hB hN cN hfl hdl hl
   refine z01 z0i 2 rfl Tryz.func112 rfl rfl rfl ?_
   conv => arg 6; whnf
   repeat ((try conv => whnf); first | (with_reducible first | refine z0f (fun Qs hN hE hR => ?_) | refine z0d ?_ | refine z04 (fun Qb kN kE kX kR => ?_) | refine z06 ?_ | refine z07 ?_ | refine z0e ?_ | refine z08 ?_ | refine z09 ?_ | (show W _ _ _ (.cond _ _ _) _ _; refine z05 rfl ?_) | (refine hN _ ?_; try clear hN hE hR Qs; (try (conv => arg 6; dsimp only [ovl, List.set, List.map, ren0]))) | ((first | refine hE _ _ ?_ | refine hR _ ?_); try clear hN hE hR Qs) | ((first | refine kN _ ?_ | refine kE _ ?_ | refine kX _ _ rfl ?_ | refine kR _ ?_); try clear kN kE kX kR Qb)) | (refine ccB ([1]) (cx) ?_) | (refine ccB ([1]) (cd) ?_) | (refine z0c g0 ?_) | (refine z0c z0 ?_) | (refine z0c f3 ?_) | (refine z0c f4 ?_) | (refine And.intro (by simp only [List.length_append, List.length_set, List.length_replicate, List.length_cons, List.length_nil]; omega) ?_) | (refine And.intro (by kernel_rfl) ?_) | (refine stpQ ?_))
   (refine z00 (by rfl) ?_ ?_ (by rfl)) <;> (repeat' (first | (exact eqA) | (refine And.intro ?_ ?_) | ((fail_if_success (with_reducible (show _ = _))); (show _ = _)))) <;> rfl
 ·have hcl : (logB l).length ≤ 2000 := by have := hl.len; omega
  have hcp : 5 ≤ (logB l).length := by
   cases l with
   | nil => exact absurd rfl hle
   | cons t l =>
     have := (z3n (t := t) (by have := (hl.2 t List.mem_cons_self).2; omega)).1
     show 5 ≤ (z1j t ++ logB l).length
     rw [List.length_append]
     omega
  rw [z3g hle] at *
  have eF : flE [(logN, logB l, ((logB l).length : Int))] = [[.str logN, .str (logB l), .int .i64 ((logB l).length : Int)]] := rfl
  rw [eF] at cd cN hfl
  clear hN hB hl hle
  generalize logB l = tx at *
  generalize logN = ln at *
  have g0 : (((([[.str ln, .str tx, .int .i64 (tx.length : Int)]] : List (List T)).length : Nat)) : Int) > 0 := by show ((1 : Nat) : Int) > 0; decide
  have z0 : (1 : Int) > 0 := by decide
  have gk : ([[.str ln, .str tx, .int .i64 (tx.length : Int)]] : List (List T))[0]? = some [.str ln, .str tx, .int .i64 (tx.length : Int)] := rfl
  by_cases x3 : x < 3
  ·obtain ⟨m, hm⟩ : ∃ m : Nat, m = tx.length - x := ⟨_, rfl⟩
   refine ⟨[(ln, tx.take m, 0)], i2, h2, hi2, ?_⟩
   have f3 : ((x : Nat) : Int) < 3 := by omega
   have e1 : ((m : Nat) : Int) = IntKind.i64.wrap (((tx.length : Nat) : Int) - ((x : Nat) : Int)) := by rw [wrap_i64 (by omega) (by omega)]; omega
   have hmt : m ≤ tx.length := by omega
   have e2 : flE [(ln, tx.take m, 0)] = [[.str ln, .str (tx.take m), .int .i64 0]] := rfl
   rw [e2]
   clear cN hfl
   refine z01 z0i 2 rfl Tryz.func112 rfl rfl rfl ?_
   conv => arg 6; whnf
   repeat ((try conv => whnf); first | (with_reducible first | refine z0f (fun Qs hN hE hR => ?_) | refine z0d ?_ | refine z04 (fun Qb kN kE kX kR => ?_) | refine z06 ?_ | refine z07 ?_ | refine z0e ?_ | refine z08 ?_ | refine z09 ?_ | (show W _ _ _ (.cond _ _ _) _ _; refine z05 rfl ?_) | (refine hN _ ?_; try clear hN hE hR Qs; (try (conv => arg 6; dsimp only [ovl, List.set, List.map, ren0]))) | ((first | refine hE _ _ ?_ | refine hR _ ?_); try clear hN hE hR Qs) | ((first | refine kN _ ?_ | refine kE _ ?_ | refine kX _ _ rfl ?_ | refine kR _ ?_); try clear kN kE kX kR Qb)) | (refine ccB ([1]) (cx) ?_) | (refine ccB ([1]) (cd) ?_) | (refine z0h g0 ?_) | (refine z0h z0 ?_) | (refine z0h f3 ?_) | (refine i_atzL gk ?_) | (refine Exists.intro 0 (And.intro rfl ?_)) | (refine Exists.intro _ (And.intro gk ?_)) | (refine Exists.intro _ (And.intro e1 ?_)) | (refine And.intro (by simp only [List.length_append, List.length_set, List.length_replicate, List.length_cons, List.length_nil]; omega) ?_) | (refine And.intro (by kernel_rfl) ?_) | (refine stpQ ?_))
   (refine z00 (by rfl) ?_ ?_ (by rfl)) <;> (repeat' (first | (exact eqA) | (refine And.intro ?_ ?_) | ((fail_if_success (with_reducible (show _ = _))); (show _ = _)))) <;> rfl
  have n3 : ¬ ((x : Nat) : Int) < 3 := by omega
  by_cases x4 : x = 3
  ·refine ⟨[(ln, tx, (tx.length : Int)), ([97], [], 5)], i2, h2, hi2, ?_⟩
   have f3 : ((x : Nat) : Int) = 3 := by omega
   have f4 : ¬ ((x : Nat) : Int) = 4 := by omega
   have e2 : flE [(ln, tx, (tx.length : Int)), ([97], [], 5)] = [[.str ln, .str tx, .int .i64 (tx.length : Int)], [.str [97], .str [], .int .i64 5]] := rfl
   rw [e2]
   clear cN hfl
   refine z01 z0i 2 rfl Tryz.func112 rfl rfl rfl ?_
   conv => arg 6; whnf
   repeat ((try conv => whnf); first | (with_reducible first | refine z0f (fun Qs hN hE hR => ?_) | refine z0d ?_ | refine z04 (fun Qb kN kE kX kR => ?_) | refine z06 ?_ | refine z07 ?_ | refine z0e ?_ | refine z08 ?_ | refine z09 ?_ | (show W _ _ _ (.cond _ _ _) _ _; refine z05 rfl ?_) | (refine hN _ ?_; try clear hN hE hR Qs; (try (conv => arg 6; dsimp only [ovl, List.set, List.map, ren0]))) | ((first | refine hE _ _ ?_ | refine hR _ ?_); try clear hN hE hR Qs) | ((first | refine kN _ ?_ | refine kE _ ?_ | refine kX _ _ rfl ?_ | refine kR _ ?_); try clear kN kE kX kR Qb)) | (refine ccB ([1]) (cx) ?_) | (refine ccB ([1]) (cd) ?_) | (refine z0h g0 ?_) | (refine z0h z0 ?_) | (refine z0c n3 ?_) | (refine z0h f3 ?_) | (refine z0c f4 ?_) | (refine And.intro (by simp only [List.length_append, List.length_set, List.length_replicate, List.length_cons, List.length_nil]; omega) ?_) | (refine And.intro (by kernel_rfl) ?_) | (refine stpQ ?_))
   (refine z00 (by rfl) ?_ ?_ (by rfl)) <;> (repeat' (first | (exact eqA) | (refine And.intro ?_ ?_) | ((fail_if_success (with_reducible (show _ = _))); (show _ = _)))) <;> rfl
  by_cases x5 : x = 4
  ·refine ⟨addF [(ln, tx, (tx.length : Int))] [110, 101, 119] [120], i2, h2, hi2, ?_⟩
   have f3 : ¬ ((x : Nat) : Int) = 3 := by omega
   have f4 : ((x : Nat) : Int) = 4 := by omega
   generalize addF [(ln, tx, (tx.length : Int))] [110, 101, 119] [120] = R at *
   clear hfl
   refine z01 z0i 2 rfl Tryz.func112 rfl rfl rfl ?_
   conv => arg 6; whnf
   repeat ((try conv => whnf); first | (with_reducible first | refine z0f (fun Qs hN hE hR => ?_) | refine z0d ?_ | refine z04 (fun Qb kN kE kX kR => ?_) | refine z06 ?_ | refine z07 ?_ | refine z0e ?_ | refine z08 ?_ | refine z09 ?_ | (show W _ _ _ (.cond _ _ _) _ _; refine z05 rfl ?_) | (refine hN _ ?_; try clear hN hE hR Qs; (try (conv => arg 6; dsimp only [ovl, List.set, List.map, ren0]))) | ((first | refine hE _ _ ?_ | refine hR _ ?_); try clear hN hE hR Qs) | ((first | refine kN _ ?_ | refine kE _ ?_ | refine kX _ _ rfl ?_ | refine kR _ ?_); try clear kN kE kX kR Qb)) | (refine ccB ([1]) (cx) ?_) | (refine ccB ([1]) (cd) ?_) | (refine z0h g0 ?_) | (refine z0h z0 ?_) | (refine z0c n3 ?_) | (refine z0c f3 ?_) | (refine z0h f4 ?_) | (refine ccA ([]) (cN) ?_) | (refine And.intro (by simp only [List.length_append, List.length_set, List.length_replicate, List.length_cons, List.length_nil]; omega) ?_) | (refine And.intro (by kernel_rfl) ?_) | (refine stpQ ?_))
   (refine z00 (by rfl) ?_ ?_ (by rfl)) <;> (repeat' (first | (exact eqA) | (refine And.intro ?_ ?_) | ((fail_if_success (with_reducible (show _ = _))); (show _ = _)))) <;> rfl
  ·refine ⟨[(ln, tx, (tx.length : Int))], i2, h2, hi2, ?_⟩
   have f3 : ¬ ((x : Nat) : Int) = 3 := by omega
   have f4 : ¬ ((x : Nat) : Int) = 4 := by omega
   have e2 : flE [(ln, tx, (tx.length : Int))] = [[.str ln, .str tx, .int .i64 (tx.length : Int)]] := rfl
   rw [e2]
   clear cN hfl
   refine z01 z0i 2 rfl Tryz.func112 rfl rfl rfl ?_
   conv => arg 6; whnf
   repeat ((try conv => whnf); first | (with_reducible first | refine z0f (fun Qs hN hE hR => ?_) | refine z0d ?_ | refine z04 (fun Qb kN kE kX kR => ?_) | refine z06 ?_ | refine z07 ?_ | refine z0e ?_ | refine z08 ?_ | refine z09 ?_ | (show W _ _ _ (.cond _ _ _) _ _; refine z05 rfl ?_) | (refine hN _ ?_; try clear hN hE hR Qs; (try (conv => arg 6; dsimp only [ovl, List.set, List.map, ren0]))) | ((first | refine hE _ _ ?_ | refine hR _ ?_); try clear hN hE hR Qs) | ((first | refine kN _ ?_ | refine kE _ ?_ | refine kX _ _ rfl ?_ | refine kR _ ?_); try clear kN kE kX kR Qb)) | (refine ccB ([1]) (cx) ?_) | (refine ccB ([1]) (cd) ?_) | (refine z0h g0 ?_) | (refine z0h z0 ?_) | (refine z0c n3 ?_) | (refine z0c f3 ?_) | (refine z0c f4 ?_) | (refine And.intro (by simp only [List.length_append, List.length_set, List.length_replicate, List.length_cons, List.length_nil]; omega) ?_) | (refine And.intro (by kernel_rfl) ?_) | (refine stpQ ?_))
   (refine z00 (by rfl) ?_ ?_ (by rfl)) <;> (repeat' (first | (exact eqA) | (refine And.intro ?_ ?_) | ((fail_if_success (with_reducible (show _ = _))); (show _ = _)))) <;> rfl
end
end Go.Proofs.YtfjbinbpgdiafaaGreatDoor
namespace Go.Proofs.YtfjbinbpgdiafaaGreatDoor
set_option maxRecDepth 100000
set_option maxHeartbeats 32000000
set_option linter.unusedVariables false
set_option linter.unusedSimpArgs false
set_option linter.unusedSectionVars false
open Go.RowKit Pl
section
attribute [local irreducible] z0r z0s z0z AnsP LeP W CvE z0A
theorem zfF (c : Bs) (i : Nat) (h : Int) (hc : (c.length : Int) ≤ 1048576) (hi : i ≤ c.length) : ∃ (a K : Int) (up : Bool) (fs : List Fl) (ep : Int) (vs : List (List Lf)) (tk al : List (List T)) (re rt rk : Int) (i' : Nat) (h' : Int), ((∀ v ∈ vs, z0b v = true) ∧ vs.length ≤ 1000) ∧ i' ≤ c.length ∧ CT Tryz.prog 47 [curE c i h] [.ptr 1 0 0] (.agg [.int .i64 a, .int .i64 K, .bool up, .sl 3 (flE fs), .int .i64 ep, .sl 1 (vwE vs), .sl 1 tk, .sl 3 al, .int .i64 re, .int .i64 rt, .int .i64 rk]) [curE c i' h'] := by
 obtain ⟨x, i1, h1, hx, hi1, cx⟩ := z24 c i h 14 hc hi (by decide)
 obtain ⟨y, i2, h2, hy, hi2, cy⟩ := z24 c i1 h1 60 hc hi1 (by decide)
 obtain ⟨a, K, ts, i3, h3, ⟨hK, ha, hL, _, _⟩, hi3, cS⟩ := z6l c i2 h2 hc hi2
 have hz := zgi hL (by decide)
 have hv : (∀ v ∈ (svOf (a : Int) (K : Int) ts).vs, z0b v = true) ∧ (svOf (a : Int) (K : Int) ts).vs.length ≤ 1000 := ⟨hL.ok.vo, hz.2.1⟩
 have cX := z9h (a : Int) (K : Int) true (dkOf shardN ts) (svOf (a : Int) (K : Int) ts) hz.1 hz.2
 have hal : (chE (svOf (a : Int) (K : Int) ts).al).length ≤ 1000 := by rw [z0R]; exact hz.2.2.2.1
 clear hL hz
 unfold svR svRw at cX
 unfold svE at cX cS
 by_cases x0 : x = 0
 ·refine ⟨(a : Int), (K : Int), false, dkOf shardN ts, ((svOf (a : Int) (K : Int) ts).ep : Int), (svOf (a : Int) (K : Int) ts).vs, ntE (svOf (a : Int) (K : Int) ts).tk, chE (svOf (a : Int) (K : Int) ts).al, ((svOf (a : Int) (K : Int) ts).re : Int), ((svOf (a : Int) (K : Int) ts).rt : Int), ((svOf (a : Int) (K : Int) ts).rk : Int), i3, h3, hv, hi3, ?_⟩
  generalize svOf (a : Int) (K : Int) ts = s at *
  generalize dkOf shardN ts = d0 at *
  generalize vwE s.vs = V at *
  generalize ntE s.tk = TK at *
  generalize chE s.al = AL at *
  have n0 : ((x : Nat) : Int) = 0 := by omega
  have n1 : ¬ ((x : Nat) : Int) = 1 := by omega
  have n2 : ¬ ((x : Nat) : Int) = 2 := by omega
  have n3 : ¬ ((x : Nat) : Int) = 3 := by omega
  have n4 : ¬ ((x : Nat) : Int) = 4 := by omega
  have n5 : ¬ ((x : Nat) : Int) = 5 := by omega
  have n6 : ¬ ((x : Nat) : Int) = 6 := by omega
  clear hv hx hy
  refine z01 z0i 2 rfl Tryz.func47 rfl rfl rfl ?_
  conv => arg 6; whnf
  repeat ((try conv => whnf); first | (with_reducible first | refine z0f (fun Qs hN hE hR => ?_) | refine z0d ?_ | refine z04 (fun Qb kN kE kX kR => ?_) | refine z06 ?_ | refine z07 ?_ | refine z0e ?_ | refine z08 ?_ | refine z09 ?_ | (show W _ _ _ (.cond _ _ _) _ _; refine z05 rfl ?_) | (refine hN _ ?_; try clear hN hE hR Qs; (try (conv => arg 6; dsimp only [ovl, List.set, List.map, ren0]))) | ((first | refine hE _ _ ?_ | refine hR _ ?_); try clear hN hE hR Qs) | ((first | refine kN _ ?_ | refine kE _ ?_ | refine kX _ _ rfl ?_ | refine kR _ ?_); try clear kN kE kX kR Qb)) | (refine ccB ([1]) (cx) ?_) | (refine ccB ([1]) (cy) ?_) | (refine ccB ([1]) (cS) ?_) | (refine ccA ([]) (cX) ?_) | (refine z0h n0 ?_) | (refine z0c n1 ?_) | (refine z0c n2 ?_) | (refine z0c n3 ?_) | (refine z0c n4 ?_) | (refine z0c n5 ?_) | (refine z0c n6 ?_) | (refine And.intro (by simp only [List.length_append, List.length_set, List.length_replicate, List.length_cons, List.length_nil]; omega) ?_) | (refine And.intro (by kernel_rfl) ?_) | (refine stpQ ?_))
  (refine z00 (by rfl) ?_ ?_ (by rfl)) <;> (repeat' (first | (exact eqA) | (refine And.intro ?_ ?_) | ((fail_if_success (with_reducible (show _ = _))); (show _ = _)))) <;> rfl
 by_cases x1 : x = 1
 ·refine ⟨(a : Int), (K : Int), true, dkOf shardN ts, ((y % 6 : Nat) : Int), (svOf (a : Int) (K : Int) ts).vs, ntE (svOf (a : Int) (K : Int) ts).tk, chE (svOf (a : Int) (K : Int) ts).al, ((svOf (a : Int) (K : Int) ts).re : Int), ((svOf (a : Int) (K : Int) ts).rt : Int), ((svOf (a : Int) (K : Int) ts).rk : Int), i3, h3, hv, hi3, ?_⟩
  generalize svOf (a : Int) (K : Int) ts = s at *
  generalize dkOf shardN ts = d0 at *
  generalize vwE s.vs = V at *
  generalize ntE s.tk = TK at *
  generalize chE s.al = AL at *
  have n0 : ¬ ((x : Nat) : Int) = 0 := by omega
  have n1 : ((x : Nat) : Int) = 1 := by omega
  have n2 : ¬ ((x : Nat) : Int) = 2 := by omega
  have n3 : ¬ ((x : Nat) : Int) = 3 := by omega
  have n4 : ¬ ((x : Nat) : Int) = 4 := by omega
  have n5 : ¬ ((x : Nat) : Int) = 5 := by omega
  have n6 : ¬ ((x : Nat) : Int) = 6 := by omega
  clear hv hx hy
  refine z01 z0i 2 rfl Tryz.func47 rfl rfl rfl ?_
  conv => arg 6; whnf
  repeat ((try conv => whnf); first | (with_reducible first | refine z0f (fun Qs hN hE hR => ?_) | refine z0d ?_ | refine z04 (fun Qb kN kE kX kR => ?_) | refine z06 ?_ | refine z07 ?_ | refine z0e ?_ | refine z08 ?_ | refine z09 ?_ | (show W _ _ _ (.cond _ _ _) _ _; refine z05 rfl ?_) | (refine hN _ ?_; try clear hN hE hR Qs; (try (conv => arg 6; dsimp only [ovl, List.set, List.map, ren0]))) | ((first | refine hE _ _ ?_ | refine hR _ ?_); try clear hN hE hR Qs) | ((first | refine kN _ ?_ | refine kE _ ?_ | refine kX _ _ rfl ?_ | refine kR _ ?_); try clear kN kE kX kR Qb)) | (refine ccB ([1]) (cx) ?_) | (refine ccB ([1]) (cy) ?_) | (refine ccB ([1]) (cS) ?_) | (refine ccA ([]) (cX) ?_) | (refine z0c n0 ?_) | (refine z0h n1 ?_) | (refine z0c n2 ?_) | (refine z0c n3 ?_) | (refine z0c n4 ?_) | (refine z0c n5 ?_) | (refine z0c n6 ?_) | (refine z4W (n := nat_lit 6) ?_) | (refine And.intro (by simp only [List.length_append, List.length_set, List.length_replicate, List.length_cons, List.length_nil]; omega) ?_) | (refine And.intro (by kernel_rfl) ?_) | (refine stpQ ?_))
  (refine z00 (by rfl) ?_ ?_ (by rfl)) <;> (repeat' (first | (exact eqA) | (refine And.intro ?_ ?_) | ((fail_if_success (with_reducible (show _ = _))); (show _ = _)))) <;> rfl
 by_cases x2 : x = 2
 ·have g4 : ([[.int .i64 (-1)], [.int .i64 0], [.int .i64 50], [.int .i64 9223372036854775807]] : List (List T))[y % 4]? = some [.int .i64 ([-1, 0, 50, 9223372036854775807].getD (y % 4) 0)] := by
   rcases (show y % 4 = 0 ∨ y % 4 = 1 ∨ y % 4 = 2 ∨ y % 4 = 3 by omega) with e | e | e | e <;> rw [e] <;> rfl
  have l4 : y % 4 < ([[.int .i64 (-1)], [.int .i64 0], [.int .i64 50], [.int .i64 9223372036854775807]] : List (List T)).length := by show y % 4 < 4; omega
  refine ⟨(a : Int), (K : Int), true, dkOf shardN ts, ((svOf (a : Int) (K : Int) ts).ep : Int), (svOf (a : Int) (K : Int) ts).vs, ntE (svOf (a : Int) (K : Int) ts).tk, chE (svOf (a : Int) (K : Int) ts).al, ((svOf (a : Int) (K : Int) ts).re : Int), ((svOf (a : Int) (K : Int) ts).rt : Int), [-1, 0, 50, 9223372036854775807].getD (y % 4) 0, i3, h3, hv, hi3, ?_⟩
  generalize svOf (a : Int) (K : Int) ts = s at *
  generalize dkOf shardN ts = d0 at *
  generalize vwE s.vs = V at *
  generalize ntE s.tk = TK at *
  generalize chE s.al = AL at *
  have n0 : ¬ ((x : Nat) : Int) = 0 := by omega
  have n1 : ¬ ((x : Nat) : Int) = 1 := by omega
  have n2 : ((x : Nat) : Int) = 2 := by omega
  have n3 : ¬ ((x : Nat) : Int) = 3 := by omega
  have n4 : ¬ ((x : Nat) : Int) = 4 := by omega
  have n5 : ¬ ((x : Nat) : Int) = 5 := by omega
  have n6 : ¬ ((x : Nat) : Int) = 6 := by omega
  clear hv hx hy
  refine z01 z0i 2 rfl Tryz.func47 rfl rfl rfl ?_
  conv => arg 6; whnf
  repeat ((try conv => whnf); first | (with_reducible first | refine z0f (fun Qs hN hE hR => ?_) | refine z0d ?_ | refine z04 (fun Qb kN kE kX kR => ?_) | refine z06 ?_ | refine z07 ?_ | refine z0e ?_ | refine z08 ?_ | refine z09 ?_ | (show W _ _ _ (.cond _ _ _) _ _; refine z05 rfl ?_) | (refine hN _ ?_; try clear hN hE hR Qs; (try (conv => arg 6; dsimp only [ovl, List.set, List.map, ren0]))) | ((first | refine hE _ _ ?_ | refine hR _ ?_); try clear hN hE hR Qs) | ((first | refine kN _ ?_ | refine kE _ ?_ | refine kX _ _ rfl ?_ | refine kR _ ?_); try clear kN kE kX kR Qb)) | (refine ccB ([1]) (cx) ?_) | (refine ccB ([1]) (cy) ?_) | (refine ccB ([1]) (cS) ?_) | (refine ccA ([]) (cX) ?_) | (refine z0c n0 ?_) | (refine z0c n1 ?_) | (refine z0h n2 ?_) | (refine z0c n3 ?_) | (refine z0c n4 ?_) | (refine z0c n5 ?_) | (refine z0c n6 ?_) | (refine z4W (n := nat_lit 4) ?_) | (refine And.intro l4 ?_) | (refine Exists.intro _ (And.intro g4 ?_)) | (refine And.intro (by simp only [List.length_append, List.length_set, List.length_replicate, List.length_cons, List.length_nil]; omega) ?_) | (refine And.intro (by kernel_rfl) ?_) | (refine stpQ ?_))
  (refine z00 (by rfl) ?_ ?_ (by rfl)) <;> (repeat' (first | (exact eqA) | (refine And.intro ?_ ?_) | ((fail_if_success (with_reducible (show _ = _))); (show _ = _)))) <;> rfl
 by_cases x3 : x = 3
 ·refine ⟨((y % 5 : Nat) : Int) - 1, (K : Int), true, dkOf shardN ts, ((svOf (a : Int) (K : Int) ts).ep : Int), (svOf (a : Int) (K : Int) ts).vs, ntE (svOf (a : Int) (K : Int) ts).tk, chE (svOf (a : Int) (K : Int) ts).al, ((svOf (a : Int) (K : Int) ts).re : Int), ((svOf (a : Int) (K : Int) ts).rt : Int), ((svOf (a : Int) (K : Int) ts).rk : Int), i3, h3, hv, hi3, ?_⟩
  generalize svOf (a : Int) (K : Int) ts = s at *
  generalize dkOf shardN ts = d0 at *
  generalize vwE s.vs = V at *
  generalize ntE s.tk = TK at *
  generalize chE s.al = AL at *
  have n0 : ¬ ((x : Nat) : Int) = 0 := by omega
  have n1 : ¬ ((x : Nat) : Int) = 1 := by omega
  have n2 : ¬ ((x : Nat) : Int) = 2 := by omega
  have n3 : ((x : Nat) : Int) = 3 := by omega
  have n4 : ¬ ((x : Nat) : Int) = 4 := by omega
  have n5 : ¬ ((x : Nat) : Int) = 5 := by omega
  have n6 : ¬ ((x : Nat) : Int) = 6 := by omega
  clear hv hx hy
  refine z01 z0i 2 rfl Tryz.func47 rfl rfl rfl ?_
  conv => arg 6; whnf
  repeat ((try conv => whnf); first | (with_reducible first | refine z0f (fun Qs hN hE hR => ?_) | refine z0d ?_ | refine z04 (fun Qb kN kE kX kR => ?_) | refine z06 ?_ | refine z07 ?_ | refine z0e ?_ | refine z08 ?_ | refine z09 ?_ | (show W _ _ _ (.cond _ _ _) _ _; refine z05 rfl ?_) | (refine hN _ ?_; try clear hN hE hR Qs; (try (conv => arg 6; dsimp only [ovl, List.set, List.map, ren0]))) | ((first | refine hE _ _ ?_ | refine hR _ ?_); try clear hN hE hR Qs) | ((first | refine kN _ ?_ | refine kE _ ?_ | refine kX _ _ rfl ?_ | refine kR _ ?_); try clear kN kE kX kR Qb)) | (refine ccB ([1]) (cx) ?_) | (refine ccB ([1]) (cy) ?_) | (refine ccB ([1]) (cS) ?_) | (refine ccA ([]) (cX) ?_) | (refine z0c n0 ?_) | (refine z0c n1 ?_) | (refine z0c n2 ?_) | (refine z0h n3 ?_) | (refine z0c n4 ?_) | (refine z0c n5 ?_) | (refine z0c n6 ?_) | (refine z4W (n := nat_lit 5) ?_) | (refine And.intro (by simp only [List.length_append, List.length_set, List.length_replicate, List.length_cons, List.length_nil]; omega) ?_) | (refine And.intro (by kernel_rfl) ?_) | (refine stpQ ?_))
  (refine z00 (by rfl) ?_ ?_ (by rfl)) <;> (repeat' (first | (exact eqA) | (refine And.intro ?_ ?_) | ((fail_if_success (with_reducible (show _ = _))); (show _ = _)))) <;> rfl
 by_cases x4 : x = 4
 ·obtain ⟨f8, i4, h4, hi4, c8⟩ := zfp c i3 h3 hc hi3
  refine ⟨(a : Int), (K : Int), true, f8, ((svOf (a : Int) (K : Int) ts).ep : Int), (svOf (a : Int) (K : Int) ts).vs, ntE (svOf (a : Int) (K : Int) ts).tk, chE (svOf (a : Int) (K : Int) ts).al, ((svOf (a : Int) (K : Int) ts).re : Int), ((svOf (a : Int) (K : Int) ts).rt : Int), ((svOf (a : Int) (K : Int) ts).rk : Int), i4, h4, hv, hi4, ?_⟩
  generalize svOf (a : Int) (K : Int) ts = s at *
  generalize dkOf shardN ts = d0 at *
  generalize vwE s.vs = V at *
  generalize ntE s.tk = TK at *
  generalize chE s.al = AL at *
  have n0 : ¬ ((x : Nat) : Int) = 0 := by omega
  have n1 : ¬ ((x : Nat) : Int) = 1 := by omega
  have n2 : ¬ ((x : Nat) : Int) = 2 := by omega
  have n3 : ¬ ((x : Nat) : Int) = 3 := by omega
  have n4 : ((x : Nat) : Int) = 4 := by omega
  have n5 : ¬ ((x : Nat) : Int) = 5 := by omega
  have n6 : ¬ ((x : Nat) : Int) = 6 := by omega
  clear hv hx hy
  refine z01 z0i 2 rfl Tryz.func47 rfl rfl rfl ?_
  conv => arg 6; whnf
  repeat ((try conv => whnf); first | (with_reducible first | refine z0f (fun Qs hN hE hR => ?_) | refine z0d ?_ | refine z04 (fun Qb kN kE kX kR => ?_) | refine z06 ?_ | refine z07 ?_ | refine z0e ?_ | refine z08 ?_ | refine z09 ?_ | (show W _ _ _ (.cond _ _ _) _ _; refine z05 rfl ?_) | (refine hN _ ?_; try clear hN hE hR Qs; (try (conv => arg 6; dsimp only [ovl, List.set, List.map, ren0]))) | ((first | refine hE _ _ ?_ | refine hR _ ?_); try clear hN hE hR Qs) | ((first | refine kN _ ?_ | refine kE _ ?_ | refine kX _ _ rfl ?_ | refine kR _ ?_); try clear kN kE kX kR Qb)) | (refine ccB ([1]) (cx) ?_) | (refine ccB ([1]) (cy) ?_) | (refine ccB ([1]) (cS) ?_) | (refine ccA ([]) (cX) ?_) | (refine z0c n0 ?_) | (refine z0c n1 ?_) | (refine z0c n2 ?_) | (refine z0c n3 ?_) | (refine z0h n4 ?_) | (refine z0c n5 ?_) | (refine z0c n6 ?_) | (refine ccB ([1]) (c8) ?_) | (refine And.intro (by simp only [List.length_append, List.length_set, List.length_replicate, List.length_cons, List.length_nil]; omega) ?_) | (refine And.intro (by kernel_rfl) ?_) | (refine stpQ ?_))
  (refine z00 (by rfl) ?_ ?_ (by rfl)) <;> (repeat' (first | (exact eqA) | (refine And.intro ?_ ?_) | ((fail_if_success (with_reducible (show _ = _))); (show _ = _)))) <;> rfl
 by_cases x5 : x = 5
 ·obtain ⟨u, i4, h4, hu, hi4, c8⟩ := zfE c i3 h3 hc hi3
  refine ⟨(a : Int), (K : Int), true, dkOf shardN ts, ((svOf (a : Int) (K : Int) ts).ep : Int), (svOf (a : Int) (K : Int) ts).vs, ntE (svOf (a : Int) (K : Int) ts).tk, chE (svOf (a : Int) (K : Int) ts).al ++ [chL u], ((svOf (a : Int) (K : Int) ts).re : Int), ((svOf (a : Int) (K : Int) ts).rt : Int), ((svOf (a : Int) (K : Int) ts).rk : Int), i4, h4, hv, hi4, ?_⟩
  generalize svOf (a : Int) (K : Int) ts = s at *
  generalize dkOf shardN ts = d0 at *
  generalize vwE s.vs = V at *
  generalize ntE s.tk = TK at *
  generalize chE s.al = AL at *
  have n0 : ¬ ((x : Nat) : Int) = 0 := by omega
  have n1 : ¬ ((x : Nat) : Int) = 1 := by omega
  have n2 : ¬ ((x : Nat) : Int) = 2 := by omega
  have n3 : ¬ ((x : Nat) : Int) = 3 := by omega
  have n4 : ¬ ((x : Nat) : Int) = 4 := by omega
  have n5 : ((x : Nat) : Int) = 5 := by omega
  have n6 : ¬ ((x : Nat) : Int) = 6 := by omega
  clear hv hx hy
  refine z01 z0i 2 rfl Tryz.func47 rfl rfl rfl ?_
  conv => arg 6; whnf
  repeat ((try conv => whnf); first | (with_reducible first | refine z0f (fun Qs hN hE hR => ?_) | refine z0d ?_ | refine z04 (fun Qb kN kE kX kR => ?_) | refine z06 ?_ | refine z07 ?_ | refine z0e ?_ | refine z08 ?_ | refine z09 ?_ | (show W _ _ _ (.cond _ _ _) _ _; refine z05 rfl ?_) | (refine hN _ ?_; try clear hN hE hR Qs; (try (conv => arg 6; dsimp only [ovl, List.set, List.map, ren0]))) | ((first | refine hE _ _ ?_ | refine hR _ ?_); try clear hN hE hR Qs) | ((first | refine kN _ ?_ | refine kE _ ?_ | refine kX _ _ rfl ?_ | refine kR _ ?_); try clear kN kE kX kR Qb)) | (refine ccB ([1]) (cx) ?_) | (refine ccB ([1]) (cy) ?_) | (refine ccB ([1]) (cS) ?_) | (refine ccA ([]) (cX) ?_) | (refine z0c n0 ?_) | (refine z0c n1 ?_) | (refine z0c n2 ?_) | (refine z0c n3 ?_) | (refine z0c n4 ?_) | (refine z0h n5 ?_) | (refine z0c n6 ?_) | (refine ccB ([1]) (c8) ?_) | (refine And.intro (by simp only [List.length_append, List.length_set, List.length_replicate, List.length_cons, List.length_nil]; omega) ?_) | (refine And.intro (by kernel_rfl) ?_) | (refine stpQ ?_))
  (refine z00 (by rfl) ?_ ?_ (by rfl)) <;> (repeat' (first | (exact eqA) | (refine And.intro ?_ ?_) | ((fail_if_success (with_reducible (show _ = _))); (show _ = _)))) <;> rfl
 by_cases x6 : x = 6
 ·refine ⟨(a : Int), ((y % 5 : Nat) : Int) - 1, true, dkOf shardN ts, ((svOf (a : Int) (K : Int) ts).ep : Int), (svOf (a : Int) (K : Int) ts).vs, ntE (svOf (a : Int) (K : Int) ts).tk, chE (svOf (a : Int) (K : Int) ts).al, ((svOf (a : Int) (K : Int) ts).re : Int), ((svOf (a : Int) (K : Int) ts).rt : Int), ((svOf (a : Int) (K : Int) ts).rk : Int), i3, h3, hv, hi3, ?_⟩
  generalize svOf (a : Int) (K : Int) ts = s at *
  generalize dkOf shardN ts = d0 at *
  generalize vwE s.vs = V at *
  generalize ntE s.tk = TK at *
  generalize chE s.al = AL at *
  have n0 : ¬ ((x : Nat) : Int) = 0 := by omega
  have n1 : ¬ ((x : Nat) : Int) = 1 := by omega
  have n2 : ¬ ((x : Nat) : Int) = 2 := by omega
  have n3 : ¬ ((x : Nat) : Int) = 3 := by omega
  have n4 : ¬ ((x : Nat) : Int) = 4 := by omega
  have n5 : ¬ ((x : Nat) : Int) = 5 := by omega
  have n6 : ((x : Nat) : Int) = 6 := by omega
  clear hv hx hy
  refine z01 z0i 2 rfl Tryz.func47 rfl rfl rfl ?_
  conv => arg 6; whnf
  repeat ((try conv => whnf); first | (with_reducible first | refine z0f (fun Qs hN hE hR => ?_) | refine z0d ?_ | refine z04 (fun Qb kN kE kX kR => ?_) | refine z06 ?_ | refine z07 ?_ | refine z0e ?_ | refine z08 ?_ | refine z09 ?_ | (show W _ _ _ (.cond _ _ _) _ _; refine z05 rfl ?_) | (refine hN _ ?_; try clear hN hE hR Qs; (try (conv => arg 6; dsimp only [ovl, List.set, List.map, ren0]))) | ((first | refine hE _ _ ?_ | refine hR _ ?_); try clear hN hE hR Qs) | ((first | refine kN _ ?_ | refine kE _ ?_ | refine kX _ _ rfl ?_ | refine kR _ ?_); try clear kN kE kX kR Qb)) | (refine ccB ([1]) (cx) ?_) | (refine ccB ([1]) (cy) ?_) | (refine ccB ([1]) (cS) ?_) | (refine ccA ([]) (cX) ?_) | (refine z0c n0 ?_) | (refine z0c n1 ?_) | (refine z0c n2 ?_) | (refine z0c n3 ?_) | (refine z0c n4 ?_) | (refine z0c n5 ?_) | (refine z0h n6 ?_) | (refine z4W (n := nat_lit 5) ?_) | (refine And.intro (by simp only [List.length_append, List.length_set, List.length_replicate, List.length_cons, List.length_nil]; omega) ?_) | (refine And.intro (by kernel_rfl) ?_) | (refine stpQ ?_))
  (refine z00 (by rfl) ?_ ?_ (by rfl)) <;> (repeat' (first | (exact eqA) | (refine And.intro ?_ ?_) | ((fail_if_success (with_reducible (show _ = _))); (show _ = _)))) <;> rfl
 ·refine ⟨(a : Int), (K : Int), true, dkOf shardN ts, ((svOf (a : Int) (K : Int) ts).ep : Int), (svOf (a : Int) (K : Int) ts).vs, ntE (svOf (a : Int) (K : Int) ts).tk, chE (svOf (a : Int) (K : Int) ts).al, ((svOf (a : Int) (K : Int) ts).re : Int), ((svOf (a : Int) (K : Int) ts).rt : Int), ((svOf (a : Int) (K : Int) ts).rk : Int), i3, h3, hv, hi3, ?_⟩
  generalize svOf (a : Int) (K : Int) ts = s at *
  generalize dkOf shardN ts = d0 at *
  generalize vwE s.vs = V at *
  generalize ntE s.tk = TK at *
  generalize chE s.al = AL at *
  have n0 : ¬ ((x : Nat) : Int) = 0 := by omega
  have n1 : ¬ ((x : Nat) : Int) = 1 := by omega
  have n2 : ¬ ((x : Nat) : Int) = 2 := by omega
  have n3 : ¬ ((x : Nat) : Int) = 3 := by omega
  have n4 : ¬ ((x : Nat) : Int) = 4 := by omega
  have n5 : ¬ ((x : Nat) : Int) = 5 := by omega
  have n6 : ¬ ((x : Nat) : Int) = 6 := by omega
  clear hv hx hy
  refine z01 z0i 2 rfl Tryz.func47 rfl rfl rfl ?_
  conv => arg 6; whnf
  repeat ((try conv => whnf); first | (with_reducible first | refine z0f (fun Qs hN hE hR => ?_) | refine z0d ?_ | refine z04 (fun Qb kN kE kX kR => ?_) | refine z06 ?_ | refine z07 ?_ | refine z0e ?_ | refine z08 ?_ | refine z09 ?_ | (show W _ _ _ (.cond _ _ _) _ _; refine z05 rfl ?_) | (refine hN _ ?_; try clear hN hE hR Qs; (try (conv => arg 6; dsimp only [ovl, List.set, List.map, ren0]))) | ((first | refine hE _ _ ?_ | refine hR _ ?_); try clear hN hE hR Qs) | ((first | refine kN _ ?_ | refine kE _ ?_ | refine kX _ _ rfl ?_ | refine kR _ ?_); try clear kN kE kX kR Qb)) | (refine ccB ([1]) (cx) ?_) | (refine ccB ([1]) (cy) ?_) | (refine ccB ([1]) (cS) ?_) | (refine ccA ([]) (cX) ?_) | (refine z0c n0 ?_) | (refine z0c n1 ?_) | (refine z0c n2 ?_) | (refine z0c n3 ?_) | (refine z0c n4 ?_) | (refine z0c n5 ?_) | (refine z0c n6 ?_) | (refine And.intro (by simp only [List.length_append, List.length_set, List.length_replicate, List.length_cons, List.length_nil]; omega) ?_) | (refine And.intro (by kernel_rfl) ?_) | (refine stpQ ?_))
  (refine z00 (by rfl) ?_ ?_ (by rfl)) <;> (repeat' (first | (exact eqA) | (refine And.intro ?_ ?_) | ((fail_if_success (with_reducible (show _ = _))); (show _ = _)))) <;> rfl
theorem zcx (c : Bs) (hc : (c.length : Int) ≤ 1048576) : ∃ (a K : Int) (up : Bool) (fs : List Fl) (ep : Int) (vs : List (List Lf)) (tk al : List (List T)) (re rt rk : Int) (j : Int) (nm : Bs), ((∀ v ∈ vs, z0b v = true) ∧ vs.length ≤ 1000) ∧ z0C nm = true ∧ CT Tryz.prog 14 [] [.sl 1 (z0k c)] (.tup [.agg [.int .i64 a, .int .i64 K, .bool up, .sl 3 (flE fs), .int .i64 ep, .sl 1 (vwE vs), .sl 1 tk, .sl 3 al, .int .i64 re, .int .i64 rt, .int .i64 rk], .int .i64 j, .str nm]) [] := by
 obtain ⟨h, c1⟩ := z7F c hc
 obtain ⟨j, i1, h1, _, hi1, c2⟩ := z92 c 0 h [1, 1, 2, 0, 3, -1] hc (by omega) (by decide)
 obtain ⟨nm, i2, h2, hn, hi2, c3⟩ := z4i c i1 h1 hc hi1
 obtain ⟨a, K, up, fs, ep, vs, tk, al, re, rt, rk, i3, h3, hv, _, c4⟩ := zfF c i2 h2 hc hi2
 refine ⟨a, K, up, fs, ep, vs, tk, al, re, rt, rk, j, nm, hv, hn.1, ?_⟩
 have eI : intE [1, 1, 2, 0, 3, -1] = [[.int .i64 1], [.int .i64 1], [.int .i64 2], [.int .i64 0], [.int .i64 3], [.int .i64 (-1)]] := rfl
 rw [eI] at c2
 generalize flE fs = FL at *
 generalize vwE vs = V at *
 refine z01 z0i 1 rfl Tryz.func14 rfl rfl rfl ?_
 conv => arg 6; whnf
 repeat ((try conv => whnf); first | (with_reducible first | refine z0f (fun Qs hN hE hR => ?_) | refine z0d ?_ | refine z04 (fun Qb kN kE kX kR => ?_) | refine z06 ?_ | refine z07 ?_ | refine z0e ?_ | refine z08 ?_ | refine z09 ?_ | (show W _ _ _ (.cond _ _ _) _ _; refine z05 rfl ?_) | (refine hN _ ?_; try clear hN hE hR Qs; (try (conv => arg 6; dsimp only [ovl, List.set, List.map, ren0]))) | ((first | refine hE _ _ ?_ | refine hR _ ?_); try clear hN hE hR Qs) | ((first | refine kN _ ?_ | refine kE _ ?_ | refine kX _ _ rfl ?_ | refine kR _ ?_); try clear kN kE kX kR Qb)) | (refine ccA ([]) (c1) ?_) | (refine z38 ([_]) (c2) (by ((repeat' (first | (exact trivial) | (exact rfl) | (decide) | (refine And.intro ?_ ?_))); first | done | fail)) (by ((repeat' (first | (exact trivial) | (exact rfl) | (decide) | (refine And.intro ?_ ?_))); first | done | fail)) (by decide) (by rfl) (by first | exact .inl rfl | (refine .inr ⟨?_, ?_⟩ <;> simp [own2, own1, own0, ownE])) ?_) | (refine ccB ([_]) (c2) ?_) | (refine ccB ([_]) (c3) ?_) | (refine ccB ([_]) (c4) ?_) | (refine And.intro (by kernel_rfl) ?_) | (refine stpQ ?_))
 (refine z00 (by rfl) ?_ ?_ (by rfl)) <;> (repeat' (first | (exact eqA) | (refine And.intro ?_ ?_) | ((fail_if_success (with_reducible (show _ = _))); (show _ = _)))) <;> first | rfl | decide
end
end Go.Proofs.YtfjbinbpgdiafaaGreatDoor
