/- Functions by content: a script is drawn. -/
import Derived.Test.YtfgkjgfigjpkoaaDoorDrl
import Derived.Test.YtfgkjgfigjpkoaaDoorDrs
import Derived.Test.YtfgkjgfigjpkoaaDoorLng
namespace Go.Proofs.YtfgkjgfigjpkoaaDoor
set_option linter.unusedVariables false
set_option linter.unusedSimpArgs false
set_option linter.unusedSectionVars false
open Go.RowKit Pl
noncomputable def shL (e : Evt) : Bs := @ite Bs (EvG e) (Classical.propDecidable _) (@dite Bs (EvG e) (Classical.propDecidable _) (fun h => Classical.choose (z9e e h)) (fun _ => [])) []
theorem z9g {e : Evt} (h : EvG e) : (shL e).length ≤ 200 ∧ CT Tryd.prog 23 [] [.agg (evC e)] (.str (shL e)) [] := by
 have hs : shL e = Classical.choose (z9e e h) := by
  unfold shL
  rw [if_pos h, dif_pos h]
 rw [hs]
 exact Classical.choose_spec (z9e e h)
def ins4 : List Bs := [[10], [32, 32, 10], [35, 32, 97, 32, 119, 111, 114, 100, 10], [32, 32, 35, 32, 98, 10]]
def bad9 : List Bs := [[116, 97, 107, 101], [116, 101, 108, 108], [99, 97, 114, 114, 121, 32, 48, 32, 120], [119, 104, 97, 116], [102, 97, 108, 108, 32, 49, 32, 48], [7], [98, 101, 103, 105, 110, 32, 51], [119, 111, 114, 108, 100, 32, 49, 32, 48], [116, 97, 107, 101, 32, 48, 32, 48, 32, 97, 110, 110, 32, 107]]
def ret8 : List Bs := [[], [35], [119, 111, 114, 108, 100, 32, 48, 32, 48, 10], [119, 111, 114, 108, 100, 32, 49, 32, 51, 10], [116, 101, 108, 108, 32, 48, 10], [119, 111, 114, 108, 100, 32, 49, 32, 48], [119, 111, 114, 108, 100, 32, 49, 10], [119, 111, 114, 108, 100, 32, 51, 32, 50, 10, 99, 97, 108, 109, 10, 97, 115, 107, 32, 53, 32, 97, 110, 110, 32, 49, 10]]
theorem z4N {l : List Bs} {m : Nat} (h : ∀ x ∈ l, x.length ≤ m) (j : Nat) : (l.getD j []).length ≤ m := by
 rw [List.getD]
 cases hj : l[j]? with
 | none => simp
 | some x => exact h x (List.mem_of_getElem? hj)
theorem z9h (j : Nat) : (ins4.getD j []).length ≤ 20 := z4N (by decide) j
theorem z9i (j : Nat) : (bad9.getD j []).length ≤ 20 := z4N (by decide) j
theorem zc1 (j : Nat) : (ret8.getD j []).length ≤ 40 := z4N (by decide) j
noncomputable def z5E (y k : Nat) (e : Evt) (s : Bs) : Bs := ((if (k * 7 + y) % 17 = 0 then s ++ ins4.getD (y % 4) [] else s) ++ (if k = y then bad9.getD (y % 9) [] else shL e)) ++ [10]
noncomputable def lnAt (y : Nat) (L : List Evt) (s0 : Bs) : Nat → Bs
 | 0 => s0
 | k + 1 => z5E y k (L.getD k {}) (lnAt y L s0 k)
theorem z6W {y : Nat} {L : List Evt} {s0 : Bs} (hL : ∀ e ∈ L, EvG e) : ∀ k, k ≤ L.length → (lnAt y L s0 k).length ≤ s0.length + 300 * k
 | 0, _ => Nat.le_refl _
 | k + 1, h => by
   have ih := z6W (y := y) (s0 := s0) hL k (by omega)
   have he : EvG (L.getD k {}) := by rw [List.getD, List.getElem?_eq_getElem (show k < L.length by omega)]; exact hL _ (List.getElem_mem _)
   have h1 := (z9g he).1
   have h2 := z9h (y % 4)
   have h3 := z9i (y % 9)
   rw [lnAt, z5E]
   rw [List.length_append, List.length_append]
   split <;> split <;> simp only [List.length_append, List.length_cons, List.length_nil] <;> omega
theorem z9j (y : Nat) (L : List Evt) (s0 : Bs) : ∀ k, s0.length ≤ (lnAt y L s0 k).length
 | 0 => Nat.le_refl _
 | k + 1 => by
   have ih := z9j y L s0 k
   rw [lnAt, z5E]
   rw [List.length_append, List.length_append]
   split
   ·simp only [List.length_append]; omega
   ·omega
theorem zaL {a n : Nat} {K : Int → Prop} (h : a ≤ OfNat.ofNat n ∧ OfNat.ofNat n ≤ 9223372036854775807) (hk : K ((OfNat.ofNat n - a : Nat) : Int)) : ∃ r, r = IntKind.i64.wrap ((OfNat.ofNat n : Int) - (a : Int)) ∧ K r := zbb (a := OfNat.ofNat n) (b := a) h hk
theorem zaM {c : Bs} {i n x i' : Nat} {h h' : Int} (_ : Bel c i h n x i' h') {j : Nat} (hl : j < x) : (j : Int) < (x : Int) := Int.ofNat_lt.2 hl
theorem zaN {c : Bs} {i n x i' : Nat} {h h' : Int} (_ : Bel c i h n x i' h') {j : Nat} (hl : x ≤ j) : ¬ (j : Int) < (x : Int) := by omega
theorem z9k {c : Bs} {i n x i' : Nat} {h h' : Int} (k : Bel c i h n x i' h') (hn : n ≤ 256) : CT Tryd.prog 22 [] [.int .i64 (x : Int)] (.str (decM x)) [] ∧ (decM x).length ≤ 21 ∧ x ≤ 256 := ⟨z0i x (by have := k.1; omega), z0k x (by have := k.1; omega), by have := k.1; omega⟩
theorem z6X {c : Bs} {i n x i' : Nat} {h h' : Int} (k : Bel c i h n x i' h') (hn : n ≤ 256) : CT Tryd.prog 22 [] [.int .i64 ((1 + x : Nat) : Int)] (.str (decM (1 + x))) [] ∧ (decM (1 + x)).length ≤ 21 ∧ x ≤ 256 := ⟨z0i _ (by have := k.1; omega), z0k _ (by have := k.1; omega), by have := k.1; omega⟩
def Nam (c : Bs) (i : Nat) (h : Int) (s : Bs) (i' : Nat) (h' : Int) : Prop := s.length ≤ 9 ∧ i' ≤ c.length ∧ CT Tryd.prog 24 [curE c i h] [.ptr 1 0 0] (.str s) [curE c i' h']
theorem nam_ex (c : Bs) (i : Nat) (h : Int) (hc : (c.length : Int) ≤ 1048576) (hi : i ≤ c.length) : ∃ s i' h', Nam c i h s i' h' := by
 obtain ⟨s, i', h', hs, hi', k⟩ := z5q c i h hc hi
 exact ⟨s, i', h', hs.2, hi', k⟩
def askB (s : Bs) (a b : Nat) (nm : Bs) : Bs := ((((((s ++ [97, 115, 107, 32]) ++ decM a) ++ [32]) ++ nm) ++ [32]) ++ decM (1 + b)) ++ [10]
inductive AR (c : Bs) : Nat → Nat → Int → Bs → Bs → Nat → Int → Prop
 | stop {k i h s x i1 h1} : Bel c i h 4 x i1 h1 → x ≤ k → AR c k i h s s i1 h1
 | step {k i h s x i1 h1 a i2 h2 nm i3 h3 b i4 h4 s' i' h'} : Bel c i h 4 x i1 h1 → k < x → Bel c i1 h1 3 a i2 h2 → Nam c i2 h2 nm i3 h3 → Bel c i3 h3 2 b i4 h4 → AR c (k + 1) i4 h4 (askB s a b nm) s' i' h' → AR c k i h s s' i' h'
theorem ar_ex (c : Bs) (hc : (c.length : Int) ≤ 1048576) : ∀ (f k : Nat) (i : Nat) (h : Int) (s : Bs), k + f = 4 → i ≤ c.length → ∃ s' i' h', AR c k i h s s' i' h' ∧ s'.length ≤ s.length + 100 * f ∧ s.length ≤ s'.length
 | f, k, i, h, s, hf, hi => by
   obtain ⟨x, i1, h1, kx⟩ := z1p c i h 4 hc hi (by decide)
   by_cases hk : k < x
   ·have hx := kx.1
    obtain ⟨a, i2, h2, ka⟩ := z1p c i1 h1 3 hc kx.2.1 (by decide)
    obtain ⟨nm, i3, h3, kn⟩ := nam_ex c i2 h2 hc ka.2.1
    obtain ⟨b, i4, h4, kb⟩ := z1p c i3 h3 2 hc kn.2.1 (by decide)
    cases f with
    | zero => omega
    | succ f =>
      obtain ⟨s', i', h', hr, hl, hg⟩ := ar_ex c hc f (k + 1) i4 h4 (askB s a b nm) (by omega) kb.2.1
      have q1 := z0k a (by have := ka.1; omega)
      have q2 := z0k (1 + b) (by have := kb.1; omega)
      have q3 := kn.1
      have q4 : (askB s a b nm).length ≤ s.length + 100 ∧ s.length ≤ (askB s a b nm).length := by
       unfold askB
       simp only [List.length_append, List.length_cons, List.length_nil]
       omega
      exact ⟨s', i', h', .step kx hk ka kn kb hr, by omega, by omega⟩
   ·exact ⟨s, i1, h1, .stop kx (by omega), by omega, Nat.le_refl _⟩
def repB (s w : Bs) : Nat → Bs
 | 0 => s
 | k + 1 => repB s w k ++ w
theorem z6Y (s w : Bs) : repB s w 0 = s := rfl
theorem z6Z (s w : Bs) (k : Nat) : repB s w (k + 1) = repB s w k ++ w := rfl
theorem z1C (s w : Bs) : ∀ k, (repB s w k).length = s.length + k * w.length
 | 0 => by simp [repB]
 | k + 1 => by rw [repB, List.length_append, z1C s w k, Nat.succ_mul]; omega
def endB (k y : Nat) (s : Bs) : Bs := if k = 0 then ret8.getD (y % 8) [] else if k = 1 then (if s.length < 4000 then (s ++ [35]) ++ List.replicate (4000 - s.length - 1 + y % 2) 32 else s) else if k = 2 then s.take (s.length - 1)
 else if k = 3 then repB s [116, 101, 108, 108, 32, 48, 10] 80 else if k = 4 then repB s [97, 115, 107, 32, 48, 32, 97, 110, 110, 32, 49, 10] 11 else s
def z1e (n k : Nat) : Bs := ((([119, 111, 114, 108, 100, 32] ++ decM n) ++ [32]) ++ decM k) ++ [10]
section
attribute [local irreducible] z0t z0u z0C AnsP LeP W
attribute [local irreducible] repB
set_option maxRecDepth 100000 in
set_option maxHeartbeats 8000000 in
theorem zai (c : Bs) (hc : (c.length : Int) ≤ 1048576) : ∃ s : Bs, s.length ≤ 1000000 ∧ CT Tryd.prog 8 [] [.sl 1 (z0n c)] (.str s) [] := by
 obtain ⟨h0, k0⟩ := z6L c hc
 obtain ⟨k, i1, h1, kk⟩ := z1p c 0 h0 30 hc (Nat.zero_le _) (by decide)
 obtain ⟨y, i2, h2, ky⟩ := z1p c i1 h1 200 hc kk.2.1 (by decide)
 obtain ⟨calm, i3, h3, kc⟩ := z9c c i2 h2 2 hc ky.2.1 (by decide)
 obtain ⟨n, m, L, hnm, hL, hLl, kl⟩ := c_life c (decide (((c.length % 3 : Nat) : Int) = 0)) hc
 have hbl := z0J c
 have d1 := z0i n (by omega)
 have d2 := z0i m (by omega)
 have l1 := z0k n (by omega)
 have l2 := z0k m (by omega)
 have hs0 : (z1e n m).length ≤ 100 := by
  unfold z1e
  simp only [List.length_append, List.length_cons, List.length_nil]
  omega
 have hS := z6W (y := y) (s0 := z1e n m) hL
 have hS0 : lnAt y L (z1e n m) 0 = z1e n m := rfl
 have hSn : ∀ j, lnAt y L (z1e n m) (j + 1) = z5E y j (L.getD j {}) (lnAt y L (z1e n m) j) := fun j => rfl
 have hSl := hS L.length (Nat.le_refl _)
 obtain ⟨sC, hsC⟩ : ∃ sC : Bs, sC = if calm = true then lnAt y L (z1e n m) L.length ++ [99, 97, 108, 109, 10] else lnAt y L (z1e n m) L.length := ⟨_, rfl⟩
 have hsCl : sC.length ≤ 40000 := by
  rw [hsC]
  split
  ·rw [List.length_append]; simp; omega
  ·omega
 have hsCg : 1 ≤ sC.length := by
  have q := z9j y L (z1e n m) L.length
  have q2 : 1 ≤ (z1e n m).length := by unfold z1e; simp only [List.length_append, List.length_cons]; omega
  rw [hsC]
  split
  ·rw [List.length_append]; omega
  ·omega
 obtain ⟨sA, iA, hA, hAr, hAl, hAg⟩ := ar_ex c hc 4 0 i3 h3 sC rfl kc.1
 have ck := kk.2.2
 have cy := ky.2.2
 have cc := kc.2
 have hk := kk.1
 have hy := ky.1
 refine ⟨endB k y sA, ?_, ?_⟩
 ·unfold endB
  have q := zc1 (y % 8)
  split
  ·omega
  split
  ·split
   ·simp only [List.length_append, List.length_cons, List.length_nil, List.length_replicate]; omega
   ·omega
  split
  ·rw [List.length_take]; omega
  split
  ·rw [z1C]; simp only [List.length_cons, List.length_nil]; omega
  split
  ·rw [z1C]; simp only [List.length_cons, List.length_nil]; omega
  ·omega
 clear kk ky kc
 have hst : z1e n m = ((([119, 111, 114, 108, 100, 32] ++ decM n) ++ [32]) ++ decM m) ++ [10] := rfl
 refine z0d z0f 1 rfl Tryd.func8 rfl rfl rfl ?_
 conv => arg 6; whnf
 repeat ((try conv => whnf); first | (with_reducible first | refine z08 (fun Qs hN hE hR => ?_) | refine z06 ?_ | refine z00 (fun Qb kN kE kX kR => ?_) | refine z02 ?_ | refine z03 ?_ | refine z07 ?_ | refine z04 ?_ | refine z05 ?_ | (show W _ _ _ (.cond _ _ _) _ _; refine z01 rfl ?_) | (refine hN _ ?_; try clear hN hE hR Qs) | ((first | refine hE _ _ ?_ | refine hR _ ?_); try clear hN hE hR Qs) | ((first | refine kN _ ?_ | refine kE _ ?_ | refine kX _ _ rfl ?_ | refine kR _ ?_); try clear kN kE kX kR Qb)) | (refine ccA ([]) (k0) ?_) | (refine ccB ([_]) (ck) ?_) | (refine ccB ([_]) (cy) ?_) | (refine ccB ([_]) (cc) ?_) | (refine Exists.intro c.length (And.intro hbl ?_)) | (refine z16 (n := nat_lit 3) ?_) | (refine ccA ([]) (kl) ?_) | (refine ccA ([]) (d1) ?_) | (refine ccA ([]) (d2) ?_) | (refine And.intro (by simp only [List.length_append, List.length_cons, List.length_nil]; omega) ?_) | (refine stpQ ?_))
 rw [← hst]
 clear k0 ck cy cc kl d1 d2 hst hbl
 have hLe := z0B L
 refine z0A 0 ⟨[(3, .ptr 1 0 0), (4, .int .i64 (k : Int)), (5, .int .i64 (y : Int)), (6, .bool calm), (10, .str (lnAt y L (z1e n m) L.length))], [(1, some (curE c i3 h3))], 2⟩ Nat (fun j => ⟨[(3, .ptr 1 0 0), (4, .int .i64 (k : Int)), (5, .int .i64 (y : Int)), (6, .bool calm), (9, .ref 2), (10, .str (lnAt y L (z1e n m) j)), (11, .int .i64 (j : Int))], [(1, some (curE c i3 h3)), (2, some (.row 10 (evE L)))], 3⟩) (fun j => j ≤ L.length) (fun j => L.length - j) 0 (by omega) ?_ ?_ ?_
 ·(refine z0a (by rfl) ?_ ?_) <;> (repeat' (first | (exact eqA) | (refine And.intro ?_ ?_) | ((fail_if_success (with_reducible (show _ = _))); (show _ = _)))) <;> first | rfl | decide
 ·intro j hj
  by_cases hlt : j < L.length
  ·have f1 : (j : Int) < ((evE L).length : Int) := by omega
   have jl : j < (evE L).length := by omega
   have he : EvG (L.getD j {}) := by rw [List.getD, List.getElem?_eq_getElem hlt]; exact hL _ (List.getElem_mem _)
   have gj : (evE L)[j]? = some (evC (L.getD j {})) := by rw [evE, List.getElem?_map, List.getD, List.getElem?_eq_getElem hlt]; rfl
   have cs := (z9g he).2
   have ls := (z9g he).1
   have lS := hS j hj
   have hn := hSn j
   unfold z5E at hn
   have q4 := z9h (y % 4)
   have q9 := z9i (y % 9)
   have m4 : y % 4 < ins4.length := Nat.mod_lt _ (by decide)
   have m9 : y % 9 < bad9.length := Nat.mod_lt _ (by decide)
   have g4 := z3q m4
   have g9 := z3q m9
   have r4 : y % 4 < (strE ins4).length := m4
   have r9 : y % 9 < (strE bad9).length := m9
   generalize shL (L.getD j {}) = sl at *
   generalize L.getD j {} = e at *
   obtain ⟨ek, eh, ea, emk, emn, ema, eci, ecn, ecv, etx⟩ := e
   unfold evC at gj cs
   simp only at gj cs
   generalize ins4.getD (y % 4) [] = w4 at *
   generalize bad9.getD (y % 9) [] = w9 at *
   generalize lnAt y L (z1e n m) j = sj at *
   clear he hL hS hSn hsC hAr hSl
   have fm : j * 7 + y ≤ 9223372036854775807 := by omega
   by_cases h17 : (j * 7 + y) % 17 = 0
   ·have f17 : (((j * 7 + y) % 17 : Nat) : Int) = 0 := by omega
    rw [if_pos h17] at hn
    by_cases hjy : j = y
    ·have fy : (j : Int) = (y : Int) := by omega
     rw [if_pos hjy] at hn
     repeat ((try conv => whnf); first | (with_reducible first | refine z08 (fun Qs hN hE hR => ?_) | refine z06 ?_ | refine z00 (fun Qb kN kE kX kR => ?_) | refine z02 ?_ | refine z03 ?_ | refine z07 ?_ | refine z04 ?_ | refine z05 ?_ | (show W _ _ _ (.cond _ _ _) _ _; refine z01 rfl ?_) | (refine hN _ ?_; try clear hN hE hR Qs) | ((first | refine hE _ _ ?_ | refine hR _ ?_); try clear hN hE hR Qs) | ((first | refine kN _ ?_ | refine kE _ ?_ | refine kX _ _ rfl ?_ | refine kR _ ?_); try clear kN kE kX kR Qb)) | (refine z0b f1 ?_) | (refine z8r (by omega) ?_) | (refine z5X (by omega) ?_) | (refine z16 (n := nat_lit 17) ?_) | (refine z0b f17 ?_) | (refine z0b fy ?_) | (refine z16 (n := nat_lit 4) ?_) | (refine z16 (n := nat_lit 9) ?_) | (refine And.intro jl ?_) | (refine And.intro r4 ?_) | (refine And.intro r9 ?_) | (refine Exists.intro _ (And.intro gj ?_)) | (refine Exists.intro _ (And.intro g4 ?_)) | (refine Exists.intro _ (And.intro g9 ?_)) | (refine ccA ([]) (cs) ?_) | (refine And.intro (by kernel_rfl) ?_) | (refine And.intro (by simp only [List.length_append, List.length_cons, List.length_nil]; omega) ?_) | (refine stpQ ?_))
     refine ⟨j + 1, by omega, by omega, ?_⟩
     rw [hn]
     (refine z0a (by rfl) ?_ ?_) <;> (repeat' (first | (exact eqA) | (refine And.intro ?_ ?_) | ((fail_if_success (with_reducible (show _ = _))); (show _ = _)))) <;> rfl
    ·have fy : ¬ (j : Int) = (y : Int) := by omega
     rw [if_neg hjy] at hn
     repeat ((try conv => whnf); first | (with_reducible first | refine z08 (fun Qs hN hE hR => ?_) | refine z06 ?_ | refine z00 (fun Qb kN kE kX kR => ?_) | refine z02 ?_ | refine z03 ?_ | refine z07 ?_ | refine z04 ?_ | refine z05 ?_ | (show W _ _ _ (.cond _ _ _) _ _; refine z01 rfl ?_) | (refine hN _ ?_; try clear hN hE hR Qs) | ((first | refine hE _ _ ?_ | refine hR _ ?_); try clear hN hE hR Qs) | ((first | refine kN _ ?_ | refine kE _ ?_ | refine kX _ _ rfl ?_ | refine kR _ ?_); try clear kN kE kX kR Qb)) | (refine z0b f1 ?_) | (refine z8r (by omega) ?_) | (refine z5X (by omega) ?_) | (refine z16 (n := nat_lit 17) ?_) | (refine z0b f17 ?_) | (refine z0c fy ?_) | (refine z16 (n := nat_lit 4) ?_) | (refine z16 (n := nat_lit 9) ?_) | (refine And.intro jl ?_) | (refine And.intro r4 ?_) | (refine And.intro r9 ?_) | (refine Exists.intro _ (And.intro gj ?_)) | (refine Exists.intro _ (And.intro g4 ?_)) | (refine Exists.intro _ (And.intro g9 ?_)) | (refine ccA ([]) (cs) ?_) | (refine And.intro (by kernel_rfl) ?_) | (refine And.intro (by simp only [List.length_append, List.length_cons, List.length_nil]; omega) ?_) | (refine stpQ ?_))
     refine ⟨j + 1, by omega, by omega, ?_⟩
     rw [hn]
     (refine z0a (by rfl) ?_ ?_) <;> (repeat' (first | (exact eqA) | (refine And.intro ?_ ?_) | ((fail_if_success (with_reducible (show _ = _))); (show _ = _)))) <;> rfl
   ·have f17 : ¬ (((j * 7 + y) % 17 : Nat) : Int) = 0 := by omega
    rw [if_neg h17] at hn
    by_cases hjy : j = y
    ·have fy : (j : Int) = (y : Int) := by omega
     rw [if_pos hjy] at hn
     repeat ((try conv => whnf); first | (with_reducible first | refine z08 (fun Qs hN hE hR => ?_) | refine z06 ?_ | refine z00 (fun Qb kN kE kX kR => ?_) | refine z02 ?_ | refine z03 ?_ | refine z07 ?_ | refine z04 ?_ | refine z05 ?_ | (show W _ _ _ (.cond _ _ _) _ _; refine z01 rfl ?_) | (refine hN _ ?_; try clear hN hE hR Qs) | ((first | refine hE _ _ ?_ | refine hR _ ?_); try clear hN hE hR Qs) | ((first | refine kN _ ?_ | refine kE _ ?_ | refine kX _ _ rfl ?_ | refine kR _ ?_); try clear kN kE kX kR Qb)) | (refine z0b f1 ?_) | (refine z8r (by omega) ?_) | (refine z5X (by omega) ?_) | (refine z16 (n := nat_lit 17) ?_) | (refine z0c f17 ?_) | (refine z0b fy ?_) | (refine z16 (n := nat_lit 4) ?_) | (refine z16 (n := nat_lit 9) ?_) | (refine And.intro jl ?_) | (refine And.intro r4 ?_) | (refine And.intro r9 ?_) | (refine Exists.intro _ (And.intro gj ?_)) | (refine Exists.intro _ (And.intro g4 ?_)) | (refine Exists.intro _ (And.intro g9 ?_)) | (refine ccA ([]) (cs) ?_) | (refine And.intro (by kernel_rfl) ?_) | (refine And.intro (by simp only [List.length_append, List.length_cons, List.length_nil]; omega) ?_) | (refine stpQ ?_))
     refine ⟨j + 1, by omega, by omega, ?_⟩
     rw [hn]
     (refine z0a (by rfl) ?_ ?_) <;> (repeat' (first | (exact eqA) | (refine And.intro ?_ ?_) | ((fail_if_success (with_reducible (show _ = _))); (show _ = _)))) <;> rfl
    ·have fy : ¬ (j : Int) = (y : Int) := by omega
     rw [if_neg hjy] at hn
     repeat ((try conv => whnf); first | (with_reducible first | refine z08 (fun Qs hN hE hR => ?_) | refine z06 ?_ | refine z00 (fun Qb kN kE kX kR => ?_) | refine z02 ?_ | refine z03 ?_ | refine z07 ?_ | refine z04 ?_ | refine z05 ?_ | (show W _ _ _ (.cond _ _ _) _ _; refine z01 rfl ?_) | (refine hN _ ?_; try clear hN hE hR Qs) | ((first | refine hE _ _ ?_ | refine hR _ ?_); try clear hN hE hR Qs) | ((first | refine kN _ ?_ | refine kE _ ?_ | refine kX _ _ rfl ?_ | refine kR _ ?_); try clear kN kE kX kR Qb)) | (refine z0b f1 ?_) | (refine z8r (by omega) ?_) | (refine z5X (by omega) ?_) | (refine z16 (n := nat_lit 17) ?_) | (refine z0c f17 ?_) | (refine z0c fy ?_) | (refine z16 (n := nat_lit 4) ?_) | (refine z16 (n := nat_lit 9) ?_) | (refine And.intro jl ?_) | (refine And.intro r4 ?_) | (refine And.intro r9 ?_) | (refine Exists.intro _ (And.intro gj ?_)) | (refine Exists.intro _ (And.intro g4 ?_)) | (refine Exists.intro _ (And.intro g9 ?_)) | (refine ccA ([]) (cs) ?_) | (refine And.intro (by kernel_rfl) ?_) | (refine And.intro (by simp only [List.length_append, List.length_cons, List.length_nil]; omega) ?_) | (refine stpQ ?_))
     refine ⟨j + 1, by omega, by omega, ?_⟩
     rw [hn]
     (refine z0a (by rfl) ?_ ?_) <;> (repeat' (first | (exact eqA) | (refine And.intro ?_ ?_) | ((fail_if_success (with_reducible (show _ = _))); (show _ = _)))) <;> rfl
  ·have hje : j = L.length := by omega
   subst hje
   have f1 : ¬ (L.length : Int) < ((evE L).length : Int) := by omega
   repeat ((try conv => whnf); first | (with_reducible first | refine z08 (fun Qs hN hE hR => ?_) | refine z06 ?_ | refine z00 (fun Qb kN kE kX kR => ?_) | refine z02 ?_ | refine z03 ?_ | refine z07 ?_ | refine z04 ?_ | refine z05 ?_ | (show W _ _ _ (.cond _ _ _) _ _; refine z01 rfl ?_) | (refine hN _ ?_; try clear hN hE hR Qs) | ((first | refine hE _ _ ?_ | refine hR _ ?_); try clear hN hE hR Qs) | ((first | refine kN _ ?_ | refine kE _ ?_ | refine kX _ _ rfl ?_ | refine kR _ ?_); try clear kN kE kX kR Qb)) | (refine z0c f1 ?_) | (refine stpQ ?_))
   (refine z0a (by rfl) ?_ ?_) <;> (repeat' (first | (exact eqA) | (refine And.intro ?_ ?_) | ((fail_if_success (with_reducible (show _ = _))); (show _ = _))))
 ·clear hS hSn hS0 hs0 hL hLe
  generalize lnAt y L (z1e n m) L.length = s1 at *
  have lastS : ∀ calm', calm = calm' → (if calm' = true then s1 ++ [99, 97, 108, 109, 10] else s1) = sC := fun c' hcc => by rw [hsC, hcc]
  clear hsC
  cases calm
  ·have e1 := lastS false rfl
   rw [if_neg (by decide)] at e1
   clear lastS
   subst e1
   repeat ((try conv => whnf); first | (with_reducible first | refine z08 (fun Qs hN hE hR => ?_) | refine z06 ?_ | refine z00 (fun Qb kN kE kX kR => ?_) | refine z02 ?_ | refine z03 ?_ | refine z07 ?_ | refine z04 ?_ | refine z05 ?_ | (show W _ _ _ (.cond _ _ _) _ _; refine z01 rfl ?_) | (refine hN _ ?_; try clear hN hE hR Qs) | ((first | refine hE _ _ ?_ | refine hR _ ?_); try clear hN hE hR Qs) | ((first | refine kN _ ?_ | refine kE _ ?_ | refine kX _ _ rfl ?_ | refine kR _ ?_); try clear kN kE kX kR Qb)) | (refine And.intro trivial ?_) | (refine stpQ ?_))
   refine z0A 2 ⟨[(4, .int .i64 (k : Int)), (5, .int .i64 (y : Int)), (10, .str sA)], [], 1⟩ (Nat × Nat × Int × Bs) (fun z => ⟨[(3, .ptr 1 0 0), (4, .int .i64 (k : Int)), (5, .int .i64 (y : Int)), (10, .str z.2.2.2), (13, .int .i64 (z.1 : Int))], [(1, some (curE c z.2.1 z.2.2.1))], 2⟩)
    (fun z => z.1 ≤ 4 ∧ z.2.2.2.length ≤ 40000 + 100 * z.1 ∧ AR c z.1 z.2.1 z.2.2.1 z.2.2.2 sA iA hA) (fun z => 4 - z.1) (0, i3, h3, s1) ⟨Nat.zero_le _, by simpa using hsCl, hAr⟩ ?_ ?_ ?_
   ·(refine z0a (by rfl) ?_ ?_) <;> (repeat' (first | (exact eqA) | (refine And.intro ?_ ?_) | ((fail_if_success (with_reducible (show _ = _))); (show _ = _)))) <;> first | rfl | decide | exact e1
   ·clear hAr hAl hAg
    intro z hz
    obtain ⟨j, ij, hj, s⟩ := z
    have hj4 : j ≤ 4 := hz.1
    have hsl : s.length ≤ 40000 + 100 * j := hz.2.1
    have hr : AR c j ij hj s sA iA hA := hz.2.2
    clear hz
    simp only
    cases hr with
    | stop kx hxk =>
      have cx := kx.2.2
      have f1 := zaN kx hxk
      repeat ((try conv => whnf); first | (with_reducible first | refine z08 (fun Qs hN hE hR => ?_) | refine z06 ?_ | refine z00 (fun Qb kN kE kX kR => ?_) | refine z02 ?_ | refine z03 ?_ | refine z07 ?_ | refine z04 ?_ | refine z05 ?_ | (show W _ _ _ (.cond _ _ _) _ _; refine z01 rfl ?_) | (refine hN _ ?_; try clear hN hE hR Qs) | ((first | refine hE _ _ ?_ | refine hR _ ?_); try clear hN hE hR Qs) | ((first | refine kN _ ?_ | refine kE _ ?_ | refine kX _ _ rfl ?_ | refine kR _ ?_); try clear kN kE kX kR Qb)) | (refine ccB ([1]) (cx) ?_) | (refine z0c f1 ?_) | (refine stpQ ?_))
      (refine z0a (by rfl) ?_ ?_) <;> (repeat' (first | (exact eqA) | (refine And.intro ?_ ?_) | ((fail_if_success (with_reducible (show _ = _))); (show _ = _))))
    | step kx hxk ka kn kb hr2 =>
      have cx := kx.2.2
      have f1 := zaM kx hxk
      have ca := ka.2.2
      have cn := kn.2.2
      have cb := kb.2.2
      have qn := kn.1
      obtain ⟨da, la, ba⟩ := z9k ka (by decide)
      obtain ⟨db, lb, bb⟩ := z6X kb (by decide)
      have q4 : j < 4 := Nat.lt_trans hxk kx.1
      clear kx ka kn kb
      unfold askB at hr2
      repeat ((try conv => whnf); first | (with_reducible first | refine z08 (fun Qs hN hE hR => ?_) | refine z06 ?_ | refine z00 (fun Qb kN kE kX kR => ?_) | refine z02 ?_ | refine z03 ?_ | refine z07 ?_ | refine z04 ?_ | refine z05 ?_ | (show W _ _ _ (.cond _ _ _) _ _; refine z01 rfl ?_) | (refine hN _ ?_; try clear hN hE hR Qs) | ((first | refine hE _ _ ?_ | refine hR _ ?_); try clear hN hE hR Qs) | ((first | refine kN _ ?_ | refine kE _ ?_ | refine kX _ _ rfl ?_ | refine kR _ ?_); try clear kN kE kX kR Qb)) | (refine ccB ([1]) (cx) ?_) | (refine z0b f1 ?_) | (refine ccB ([1]) (ca) ?_) | (refine ccA ([]) (da) ?_) | (refine ccB ([1]) (cn) ?_) | (refine ccB ([1]) (cb) ?_) | (refine z1O (by omega) ?_) | (refine ccA ([]) (db) ?_) | (refine And.intro (by simp only [List.length_append, List.length_cons, List.length_nil]; omega) ?_) | (refine stpQ ?_))
      refine ⟨(j + 1, _, _, _), ⟨by show j + 1 ≤ 4; omega, by show (_ : Bs).length ≤ 40000 + 100 * (j + 1); simp only [List.length_append, List.length_cons, List.length_nil]; omega, hr2⟩, by show 4 - (j + 1) < 4 - j; omega, ?_⟩
      (refine z0a (by rfl) ?_ ?_) <;> (repeat' (first | (exact eqA) | (refine And.intro ?_ ?_) | ((fail_if_success (with_reducible (show _ = _))); (show _ = _)))) <;> rfl
   ·clear hAr
    have hsA : sA.length ≤ 41000 ∧ 1 ≤ sA.length := by omega
    clear hAl hAg
    have m8 : y % 8 < ret8.length := Nat.mod_lt _ (by decide)
    have g8 := z3q m8
    have r8 : y % 8 < (strE ret8).length := m8
    by_cases hk0 : k = 0
    ·have f0 : (k : Int) = 0 := by omega
     have e : endB k y sA = ret8.getD (y % 8) [] := by unfold endB; rw [if_pos hk0]
     repeat ((try conv => whnf); first | (with_reducible first | refine z08 (fun Qs hN hE hR => ?_) | refine z06 ?_ | refine z00 (fun Qb kN kE kX kR => ?_) | refine z02 ?_ | refine z03 ?_ | refine z07 ?_ | refine z04 ?_ | refine z05 ?_ | (show W _ _ _ (.cond _ _ _) _ _; refine z01 rfl ?_) | (refine hN _ ?_; try clear hN hE hR Qs) | ((first | refine hE _ _ ?_ | refine hR _ ?_); try clear hN hE hR Qs) | ((first | refine kN _ ?_ | refine kE _ ?_ | refine kX _ _ rfl ?_ | refine kR _ ?_); try clear kN kE kX kR Qb)) | (refine z0b f0 ?_) | (refine z16 (n := nat_lit 8) ?_) | (refine And.intro r8 ?_) | (refine Exists.intro _ (And.intro g8 ?_)) | (refine stpQ ?_))
     (refine z09 (by rfl) ?_ ?_ (by rfl)) <;> (repeat' (first | (exact eqA) | (refine And.intro ?_ ?_) | ((fail_if_success (with_reducible (show _ = _))); (show _ = _)))) <;> first | rfl | (rw [e]; done)
    have f0 : ¬ (k : Int) = 0 := by omega
    by_cases hk1 : k = 1
    ·have f1 : (k : Int) = 1 := by omega
     by_cases hlt : sA.length < 4000
     ·have fl : (sA.length : Int) < 4000 := by omega
      have e : endB k y sA = (sA ++ [35]) ++ List.replicate (4000 - sA.length - 1 + y % 2) 32 := by unfold endB; rw [if_neg hk0, if_pos hk1, if_pos hlt]
      have cl := z9f (4000 - sA.length - 1 + y % 2) 32 (by omega)
      have ll : (List.replicate (4000 - sA.length - 1 + y % 2) (32 : UInt8)).length ≤ 4001 := by rw [List.length_replicate]; omega
      repeat ((try conv => whnf); first | (with_reducible first | refine z08 (fun Qs hN hE hR => ?_) | refine z06 ?_ | refine z00 (fun Qb kN kE kX kR => ?_) | refine z02 ?_ | refine z03 ?_ | refine z07 ?_ | refine z04 ?_ | refine z05 ?_ | (show W _ _ _ (.cond _ _ _) _ _; refine z01 rfl ?_) | (refine hN _ ?_; try clear hN hE hR Qs) | ((first | refine hE _ _ ?_ | refine hR _ ?_); try clear hN hE hR Qs) | ((first | refine kN _ ?_ | refine kE _ ?_ | refine kX _ _ rfl ?_ | refine kR _ ?_); try clear kN kE kX kR Qb)) | (refine z0c f0 ?_) | (refine z0b f1 ?_) | (refine z0b fl ?_) | (refine zaL ⟨by omega, by decide⟩ ?_) | (refine z16 (n := nat_lit 2) ?_) | (refine ccA ([]) (cl) ?_) | (refine And.intro (by simp only [List.length_append, List.length_cons, List.length_nil]; omega) ?_) | (refine And.intro (by rw [List.length_append, List.length_append]; simp only [List.length_cons, List.length_nil]; omega) ?_) | (refine stpQ ?_))
      (refine z09 (by rfl) ?_ ?_ (by rfl)) <;> (repeat' (first | (exact eqA) | (refine And.intro ?_ ?_) | ((fail_if_success (with_reducible (show _ = _))); (show _ = _)))) <;> first | rfl | (rw [e]; done)
     ·have fl : ¬ (sA.length : Int) < 4000 := by omega
      have e : endB k y sA = sA := by unfold endB; rw [if_neg hk0, if_pos hk1, if_neg hlt]
      repeat ((try conv => whnf); first | (with_reducible first | refine z08 (fun Qs hN hE hR => ?_) | refine z06 ?_ | refine z00 (fun Qb kN kE kX kR => ?_) | refine z02 ?_ | refine z03 ?_ | refine z07 ?_ | refine z04 ?_ | refine z05 ?_ | (show W _ _ _ (.cond _ _ _) _ _; refine z01 rfl ?_) | (refine hN _ ?_; try clear hN hE hR Qs) | ((first | refine hE _ _ ?_ | refine hR _ ?_); try clear hN hE hR Qs) | ((first | refine kN _ ?_ | refine kE _ ?_ | refine kX _ _ rfl ?_ | refine kR _ ?_); try clear kN kE kX kR Qb)) | (refine z0c f0 ?_) | (refine z0b f1 ?_) | (refine z0c fl ?_) | (refine stpQ ?_))
      (refine z09 (by rfl) ?_ ?_ (by rfl)) <;> (repeat' (first | (exact eqA) | (refine And.intro ?_ ?_) | ((fail_if_success (with_reducible (show _ = _))); (show _ = _)))) <;> first | rfl | (rw [e]; done)
    have f1 : ¬ (k : Int) = 1 := by omega
    by_cases hk2 : k = 2
    ·have f2 : (k : Int) = 2 := by omega
     have e : endB k y sA = sA.take (sA.length - 1) := by unfold endB; rw [if_neg hk0, if_neg hk1, if_pos hk2]
     repeat ((try conv => whnf); first | (with_reducible first | refine z08 (fun Qs hN hE hR => ?_) | refine z06 ?_ | refine z00 (fun Qb kN kE kX kR => ?_) | refine z02 ?_ | refine z03 ?_ | refine z07 ?_ | refine z04 ?_ | refine z05 ?_ | (show W _ _ _ (.cond _ _ _) _ _; refine z01 rfl ?_) | (refine hN _ ?_; try clear hN hE hR Qs) | ((first | refine hE _ _ ?_ | refine hR _ ?_); try clear hN hE hR Qs) | ((first | refine kN _ ?_ | refine kE _ ?_ | refine kX _ _ rfl ?_ | refine kR _ ?_); try clear kN kE kX kR Qb)) | (refine z0c f0 ?_) | (refine z0c f1 ?_) | (refine z0b f2 ?_) | (refine stpQ ?_))
     (refine z09 (by rfl) ?_ ?_ (by rfl)) <;> (repeat' (first | (exact eqA) | (refine And.intro ?_ ?_) | ((fail_if_success (with_reducible (show _ = _))); (show _ = _)))) <;> first | rfl | (rw [e]; done)
    have f2 : ¬ (k : Int) = 2 := by omega
    by_cases hk3 : k = 3
    ·have f3 : (k : Int) = 3 := by omega
     have e : endB k y sA = repB sA [116, 101, 108, 108, 32, 48, 10] 80 := by unfold endB; rw [if_neg hk0, if_neg hk1, if_neg hk2, if_pos hk3]
     have lr := fun j => z1C sA [116, 101, 108, 108, 32, 48, 10] j
     have r0 := z6Y sA [116, 101, 108, 108, 32, 48, 10]
     have rS := z6Z sA [116, 101, 108, 108, 32, 48, 10]
     repeat ((try conv => whnf); first | (with_reducible first | refine z08 (fun Qs hN hE hR => ?_) | refine z06 ?_ | refine z00 (fun Qb kN kE kX kR => ?_) | refine z02 ?_ | refine z03 ?_ | refine z07 ?_ | refine z04 ?_ | refine z05 ?_ | (show W _ _ _ (.cond _ _ _) _ _; refine z01 rfl ?_) | (refine hN _ ?_; try clear hN hE hR Qs) | ((first | refine hE _ _ ?_ | refine hR _ ?_); try clear hN hE hR Qs) | ((first | refine kN _ ?_ | refine kE _ ?_ | refine kX _ _ rfl ?_ | refine kR _ ?_); try clear kN kE kX kR Qb)) | (refine z0c f0 ?_) | (refine z0c f1 ?_) | (refine z0c f2 ?_) | (refine z0b f3 ?_) | (refine stpQ ?_))
     refine z0A 5 ⟨[(10, .str (repB sA [116, 101, 108, 108, 32, 48, 10] 80))], [], 1⟩ Nat (fun j => ⟨[(10, .str (repB sA [116, 101, 108, 108, 32, 48, 10] j)), (14, .int .i64 (j : Int))], [], 1⟩) (fun j => j ≤ 80) (fun j => 80 - j) 0 (by omega) ?_ ?_ ?_
     ·(refine z0a (by rfl) ?_ ?_) <;> (repeat' (first | (exact eqA) | (refine And.intro ?_ ?_) | ((fail_if_success (with_reducible (show _ = _))); (show _ = _)))) <;> first | rfl | (rw [r0]; done)
     ·intro j hj
      by_cases hlt : j < 80
      ·have f : (j : Int) < 80 := by omega
       have lj := lr j
       have rj := rS j
       clear lr rS r0 e
       generalize repB sA [116, 101, 108, 108, 32, 48, 10] j = sj at *
       have lj2 : sj.length ≤ 50000 := by simp only [List.length_cons, List.length_nil] at lj; omega
       repeat ((try conv => whnf); first | (with_reducible first | refine z08 (fun Qs hN hE hR => ?_) | refine z06 ?_ | refine z00 (fun Qb kN kE kX kR => ?_) | refine z02 ?_ | refine z03 ?_ | refine z07 ?_ | refine z04 ?_ | refine z05 ?_ | (show W _ _ _ (.cond _ _ _) _ _; refine z01 rfl ?_) | (refine hN _ ?_; try clear hN hE hR Qs) | ((first | refine hE _ _ ?_ | refine hR _ ?_); try clear hN hE hR Qs) | ((first | refine kN _ ?_ | refine kE _ ?_ | refine kX _ _ rfl ?_ | refine kR _ ?_); try clear kN kE kX kR Qb)) | (refine z0b f ?_) | (refine And.intro (by simp only [List.length_append, List.length_cons, List.length_nil]; omega) ?_) | (refine stpQ ?_))
       refine ⟨j + 1, by omega, by omega, ?_⟩
       (refine z0a (by rfl) ?_ ?_) <;> (repeat' (first | (exact eqA) | (refine And.intro ?_ ?_) | ((fail_if_success (with_reducible (show _ = _))); (show _ = _)))) <;> first | rfl | (rw [rj]; done)
      ·obtain rfl : j = 80 := by omega
       have f : ¬ ((80 : Nat) : Int) < 80 := by omega
       repeat ((try conv => whnf); first | (with_reducible first | refine z08 (fun Qs hN hE hR => ?_) | refine z06 ?_ | refine z00 (fun Qb kN kE kX kR => ?_) | refine z02 ?_ | refine z03 ?_ | refine z07 ?_ | refine z04 ?_ | refine z05 ?_ | (show W _ _ _ (.cond _ _ _) _ _; refine z01 rfl ?_) | (refine hN _ ?_; try clear hN hE hR Qs) | ((first | refine hE _ _ ?_ | refine hR _ ?_); try clear hN hE hR Qs) | ((first | refine kN _ ?_ | refine kE _ ?_ | refine kX _ _ rfl ?_ | refine kR _ ?_); try clear kN kE kX kR Qb)) | (refine z0c f ?_) | (refine stpQ ?_))
       (refine z0a (by rfl) ?_ ?_) <;> (repeat' (first | (exact eqA) | (refine And.intro ?_ ?_) | ((fail_if_success (with_reducible (show _ = _))); (show _ = _))))
     ·repeat ((try conv => whnf); first | (with_reducible first | refine z08 (fun Qs hN hE hR => ?_) | refine z06 ?_ | refine z00 (fun Qb kN kE kX kR => ?_) | refine z02 ?_ | refine z03 ?_ | refine z07 ?_ | refine z04 ?_ | refine z05 ?_ | (show W _ _ _ (.cond _ _ _) _ _; refine z01 rfl ?_) | (refine hN _ ?_; try clear hN hE hR Qs) | ((first | refine hE _ _ ?_ | refine hR _ ?_); try clear hN hE hR Qs) | ((first | refine kN _ ?_ | refine kE _ ?_ | refine kX _ _ rfl ?_ | refine kR _ ?_); try clear kN kE kX kR Qb)) | (refine stpQ ?_))
      (refine z09 (by rfl) ?_ ?_ (by rfl)) <;> (repeat' (first | (exact eqA) | (refine And.intro ?_ ?_) | ((fail_if_success (with_reducible (show _ = _))); (show _ = _)))) <;> first | rfl | (rw [e]; done)
    have f3 : ¬ (k : Int) = 3 := by omega
    by_cases hk4 : k = 4
    ·have f4 : (k : Int) = 4 := by omega
     have e : endB k y sA = repB sA [97, 115, 107, 32, 48, 32, 97, 110, 110, 32, 49, 10] 11 := by unfold endB; rw [if_neg hk0, if_neg hk1, if_neg hk2, if_neg hk3, if_pos hk4]
     have lr := fun j => z1C sA [97, 115, 107, 32, 48, 32, 97, 110, 110, 32, 49, 10] j
     have r0 := z6Y sA [97, 115, 107, 32, 48, 32, 97, 110, 110, 32, 49, 10]
     have rS := z6Z sA [97, 115, 107, 32, 48, 32, 97, 110, 110, 32, 49, 10]
     repeat ((try conv => whnf); first | (with_reducible first | refine z08 (fun Qs hN hE hR => ?_) | refine z06 ?_ | refine z00 (fun Qb kN kE kX kR => ?_) | refine z02 ?_ | refine z03 ?_ | refine z07 ?_ | refine z04 ?_ | refine z05 ?_ | (show W _ _ _ (.cond _ _ _) _ _; refine z01 rfl ?_) | (refine hN _ ?_; try clear hN hE hR Qs) | ((first | refine hE _ _ ?_ | refine hR _ ?_); try clear hN hE hR Qs) | ((first | refine kN _ ?_ | refine kE _ ?_ | refine kX _ _ rfl ?_ | refine kR _ ?_); try clear kN kE kX kR Qb)) | (refine z0c f0 ?_) | (refine z0c f1 ?_) | (refine z0c f2 ?_) | (refine z0c f3 ?_) | (refine z0b f4 ?_) | (refine stpQ ?_))
     refine z0A 7 ⟨[(10, .str (repB sA [97, 115, 107, 32, 48, 32, 97, 110, 110, 32, 49, 10] 11))], [], 1⟩ Nat (fun j => ⟨[(10, .str (repB sA [97, 115, 107, 32, 48, 32, 97, 110, 110, 32, 49, 10] j)), (15, .int .i64 (j : Int))], [], 1⟩) (fun j => j ≤ 11) (fun j => 11 - j) 0 (by omega) ?_ ?_ ?_
     ·(refine z0a (by rfl) ?_ ?_) <;> (repeat' (first | (exact eqA) | (refine And.intro ?_ ?_) | ((fail_if_success (with_reducible (show _ = _))); (show _ = _)))) <;> first | rfl | (rw [r0]; done)
     ·intro j hj
      by_cases hlt : j < 11
      ·have f : (j : Int) < 11 := by omega
       have lj := lr j
       have rj := rS j
       clear lr rS r0 e
       generalize repB sA [97, 115, 107, 32, 48, 32, 97, 110, 110, 32, 49, 10] j = sj at *
       have lj2 : sj.length ≤ 50000 := by simp only [List.length_cons, List.length_nil] at lj; omega
       repeat ((try conv => whnf); first | (with_reducible first | refine z08 (fun Qs hN hE hR => ?_) | refine z06 ?_ | refine z00 (fun Qb kN kE kX kR => ?_) | refine z02 ?_ | refine z03 ?_ | refine z07 ?_ | refine z04 ?_ | refine z05 ?_ | (show W _ _ _ (.cond _ _ _) _ _; refine z01 rfl ?_) | (refine hN _ ?_; try clear hN hE hR Qs) | ((first | refine hE _ _ ?_ | refine hR _ ?_); try clear hN hE hR Qs) | ((first | refine kN _ ?_ | refine kE _ ?_ | refine kX _ _ rfl ?_ | refine kR _ ?_); try clear kN kE kX kR Qb)) | (refine z0b f ?_) | (refine And.intro (by simp only [List.length_append, List.length_cons, List.length_nil]; omega) ?_) | (refine stpQ ?_))
       refine ⟨j + 1, by omega, by omega, ?_⟩
       (refine z0a (by rfl) ?_ ?_) <;> (repeat' (first | (exact eqA) | (refine And.intro ?_ ?_) | ((fail_if_success (with_reducible (show _ = _))); (show _ = _)))) <;> first | rfl | (rw [rj]; done)
      ·obtain rfl : j = 11 := by omega
       have f : ¬ ((11 : Nat) : Int) < 11 := by omega
       repeat ((try conv => whnf); first | (with_reducible first | refine z08 (fun Qs hN hE hR => ?_) | refine z06 ?_ | refine z00 (fun Qb kN kE kX kR => ?_) | refine z02 ?_ | refine z03 ?_ | refine z07 ?_ | refine z04 ?_ | refine z05 ?_ | (show W _ _ _ (.cond _ _ _) _ _; refine z01 rfl ?_) | (refine hN _ ?_; try clear hN hE hR Qs) | ((first | refine hE _ _ ?_ | refine hR _ ?_); try clear hN hE hR Qs) | ((first | refine kN _ ?_ | refine kE _ ?_ | refine kX _ _ rfl ?_ | refine kR _ ?_); try clear kN kE kX kR Qb)) | (refine z0c f ?_) | (refine stpQ ?_))
       (refine z0a (by rfl) ?_ ?_) <;> (repeat' (first | (exact eqA) | (refine And.intro ?_ ?_) | ((fail_if_success (with_reducible (show _ = _))); (show _ = _))))
     ·repeat ((try conv => whnf); first | (with_reducible first | refine z08 (fun Qs hN hE hR => ?_) | refine z06 ?_ | refine z00 (fun Qb kN kE kX kR => ?_) | refine z02 ?_ | refine z03 ?_ | refine z07 ?_ | refine z04 ?_ | refine z05 ?_ | (show W _ _ _ (.cond _ _ _) _ _; refine z01 rfl ?_) | (refine hN _ ?_; try clear hN hE hR Qs) | ((first | refine hE _ _ ?_ | refine hR _ ?_); try clear hN hE hR Qs) | ((first | refine kN _ ?_ | refine kE _ ?_ | refine kX _ _ rfl ?_ | refine kR _ ?_); try clear kN kE kX kR Qb)) | (refine stpQ ?_))
      (refine z09 (by rfl) ?_ ?_ (by rfl)) <;> (repeat' (first | (exact eqA) | (refine And.intro ?_ ?_) | ((fail_if_success (with_reducible (show _ = _))); (show _ = _)))) <;> first | rfl | (rw [e]; done)
    have f4 : ¬ (k : Int) = 4 := by omega
    have e : endB k y sA = sA := by unfold endB; rw [if_neg hk0, if_neg hk1, if_neg hk2, if_neg hk3, if_neg hk4]
    repeat ((try conv => whnf); first | (with_reducible first | refine z08 (fun Qs hN hE hR => ?_) | refine z06 ?_ | refine z00 (fun Qb kN kE kX kR => ?_) | refine z02 ?_ | refine z03 ?_ | refine z07 ?_ | refine z04 ?_ | refine z05 ?_ | (show W _ _ _ (.cond _ _ _) _ _; refine z01 rfl ?_) | (refine hN _ ?_; try clear hN hE hR Qs) | ((first | refine hE _ _ ?_ | refine hR _ ?_); try clear hN hE hR Qs) | ((first | refine kN _ ?_ | refine kE _ ?_ | refine kX _ _ rfl ?_ | refine kR _ ?_); try clear kN kE kX kR Qb)) | (refine z0c f0 ?_) | (refine z0c f1 ?_) | (refine z0c f2 ?_) | (refine z0c f3 ?_) | (refine z0c f4 ?_) | (refine stpQ ?_))
    (refine z09 (by rfl) ?_ ?_ (by rfl)) <;> (repeat' (first | (exact eqA) | (refine And.intro ?_ ?_) | ((fail_if_success (with_reducible (show _ = _))); (show _ = _)))) <;> first | rfl | (rw [e]; done)
  ·have e1 := lastS true rfl
   rw [if_pos rfl] at e1
   clear lastS
   have hs1 : s1.length ≤ 40000 := by rw [← e1, List.length_append] at hsCl; omega
   repeat ((try conv => whnf); first | (with_reducible first | refine z08 (fun Qs hN hE hR => ?_) | refine z06 ?_ | refine z00 (fun Qb kN kE kX kR => ?_) | refine z02 ?_ | refine z03 ?_ | refine z07 ?_ | refine z04 ?_ | refine z05 ?_ | (show W _ _ _ (.cond _ _ _) _ _; refine z01 rfl ?_) | (refine hN _ ?_; try clear hN hE hR Qs) | ((first | refine hE _ _ ?_ | refine hR _ ?_); try clear hN hE hR Qs) | ((first | refine kN _ ?_ | refine kE _ ?_ | refine kX _ _ rfl ?_ | refine kR _ ?_); try clear kN kE kX kR Qb)) | (refine And.intro (by simp only [List.length_append, List.length_cons, List.length_nil]; omega) ?_) | (refine stpQ ?_))
   refine z0A 2 ⟨[(4, .int .i64 (k : Int)), (5, .int .i64 (y : Int)), (10, .str sA)], [], 1⟩ (Nat × Nat × Int × Bs) (fun z => ⟨[(3, .ptr 1 0 0), (4, .int .i64 (k : Int)), (5, .int .i64 (y : Int)), (10, .str z.2.2.2), (13, .int .i64 (z.1 : Int))], [(1, some (curE c z.2.1 z.2.2.1))], 2⟩)
    (fun z => z.1 ≤ 4 ∧ z.2.2.2.length ≤ 40000 + 100 * z.1 ∧ AR c z.1 z.2.1 z.2.2.1 z.2.2.2 sA iA hA) (fun z => 4 - z.1) (0, i3, h3, sC) ⟨Nat.zero_le _, by simpa using hsCl, hAr⟩ ?_ ?_ ?_
   ·(refine z0a (by rfl) ?_ ?_) <;> (repeat' (first | (exact eqA) | (refine And.intro ?_ ?_) | ((fail_if_success (with_reducible (show _ = _))); (show _ = _)))) <;> first | rfl | decide | exact e1
   ·clear hAr hAl hAg
    intro z hz
    obtain ⟨j, ij, hj, s⟩ := z
    have hj4 : j ≤ 4 := hz.1
    have hsl : s.length ≤ 40000 + 100 * j := hz.2.1
    have hr : AR c j ij hj s sA iA hA := hz.2.2
    clear hz
    simp only
    cases hr with
    | stop kx hxk =>
      have cx := kx.2.2
      have f1 := zaN kx hxk
      repeat ((try conv => whnf); first | (with_reducible first | refine z08 (fun Qs hN hE hR => ?_) | refine z06 ?_ | refine z00 (fun Qb kN kE kX kR => ?_) | refine z02 ?_ | refine z03 ?_ | refine z07 ?_ | refine z04 ?_ | refine z05 ?_ | (show W _ _ _ (.cond _ _ _) _ _; refine z01 rfl ?_) | (refine hN _ ?_; try clear hN hE hR Qs) | ((first | refine hE _ _ ?_ | refine hR _ ?_); try clear hN hE hR Qs) | ((first | refine kN _ ?_ | refine kE _ ?_ | refine kX _ _ rfl ?_ | refine kR _ ?_); try clear kN kE kX kR Qb)) | (refine ccB ([1]) (cx) ?_) | (refine z0c f1 ?_) | (refine stpQ ?_))
      (refine z0a (by rfl) ?_ ?_) <;> (repeat' (first | (exact eqA) | (refine And.intro ?_ ?_) | ((fail_if_success (with_reducible (show _ = _))); (show _ = _))))
    | step kx hxk ka kn kb hr2 =>
      have cx := kx.2.2
      have f1 := zaM kx hxk
      have ca := ka.2.2
      have cn := kn.2.2
      have cb := kb.2.2
      have qn := kn.1
      obtain ⟨da, la, ba⟩ := z9k ka (by decide)
      obtain ⟨db, lb, bb⟩ := z6X kb (by decide)
      have q4 : j < 4 := Nat.lt_trans hxk kx.1
      clear kx ka kn kb
      unfold askB at hr2
      repeat ((try conv => whnf); first | (with_reducible first | refine z08 (fun Qs hN hE hR => ?_) | refine z06 ?_ | refine z00 (fun Qb kN kE kX kR => ?_) | refine z02 ?_ | refine z03 ?_ | refine z07 ?_ | refine z04 ?_ | refine z05 ?_ | (show W _ _ _ (.cond _ _ _) _ _; refine z01 rfl ?_) | (refine hN _ ?_; try clear hN hE hR Qs) | ((first | refine hE _ _ ?_ | refine hR _ ?_); try clear hN hE hR Qs) | ((first | refine kN _ ?_ | refine kE _ ?_ | refine kX _ _ rfl ?_ | refine kR _ ?_); try clear kN kE kX kR Qb)) | (refine ccB ([1]) (cx) ?_) | (refine z0b f1 ?_) | (refine ccB ([1]) (ca) ?_) | (refine ccA ([]) (da) ?_) | (refine ccB ([1]) (cn) ?_) | (refine ccB ([1]) (cb) ?_) | (refine z1O (by omega) ?_) | (refine ccA ([]) (db) ?_) | (refine And.intro (by simp only [List.length_append, List.length_cons, List.length_nil]; omega) ?_) | (refine stpQ ?_))
      refine ⟨(j + 1, _, _, _), ⟨by show j + 1 ≤ 4; omega, by show (_ : Bs).length ≤ 40000 + 100 * (j + 1); simp only [List.length_append, List.length_cons, List.length_nil]; omega, hr2⟩, by show 4 - (j + 1) < 4 - j; omega, ?_⟩
      (refine z0a (by rfl) ?_ ?_) <;> (repeat' (first | (exact eqA) | (refine And.intro ?_ ?_) | ((fail_if_success (with_reducible (show _ = _))); (show _ = _)))) <;> rfl
   ·clear hAr
    have hsA : sA.length ≤ 41000 ∧ 1 ≤ sA.length := by omega
    clear hAl hAg
    have m8 : y % 8 < ret8.length := Nat.mod_lt _ (by decide)
    have g8 := z3q m8
    have r8 : y % 8 < (strE ret8).length := m8
    by_cases hk0 : k = 0
    ·have f0 : (k : Int) = 0 := by omega
     have e : endB k y sA = ret8.getD (y % 8) [] := by unfold endB; rw [if_pos hk0]
     repeat ((try conv => whnf); first | (with_reducible first | refine z08 (fun Qs hN hE hR => ?_) | refine z06 ?_ | refine z00 (fun Qb kN kE kX kR => ?_) | refine z02 ?_ | refine z03 ?_ | refine z07 ?_ | refine z04 ?_ | refine z05 ?_ | (show W _ _ _ (.cond _ _ _) _ _; refine z01 rfl ?_) | (refine hN _ ?_; try clear hN hE hR Qs) | ((first | refine hE _ _ ?_ | refine hR _ ?_); try clear hN hE hR Qs) | ((first | refine kN _ ?_ | refine kE _ ?_ | refine kX _ _ rfl ?_ | refine kR _ ?_); try clear kN kE kX kR Qb)) | (refine z0b f0 ?_) | (refine z16 (n := nat_lit 8) ?_) | (refine And.intro r8 ?_) | (refine Exists.intro _ (And.intro g8 ?_)) | (refine stpQ ?_))
     (refine z09 (by rfl) ?_ ?_ (by rfl)) <;> (repeat' (first | (exact eqA) | (refine And.intro ?_ ?_) | ((fail_if_success (with_reducible (show _ = _))); (show _ = _)))) <;> first | rfl | (rw [e]; done)
    have f0 : ¬ (k : Int) = 0 := by omega
    by_cases hk1 : k = 1
    ·have f1 : (k : Int) = 1 := by omega
     by_cases hlt : sA.length < 4000
     ·have fl : (sA.length : Int) < 4000 := by omega
      have e : endB k y sA = (sA ++ [35]) ++ List.replicate (4000 - sA.length - 1 + y % 2) 32 := by unfold endB; rw [if_neg hk0, if_pos hk1, if_pos hlt]
      have cl := z9f (4000 - sA.length - 1 + y % 2) 32 (by omega)
      have ll : (List.replicate (4000 - sA.length - 1 + y % 2) (32 : UInt8)).length ≤ 4001 := by rw [List.length_replicate]; omega
      repeat ((try conv => whnf); first | (with_reducible first | refine z08 (fun Qs hN hE hR => ?_) | refine z06 ?_ | refine z00 (fun Qb kN kE kX kR => ?_) | refine z02 ?_ | refine z03 ?_ | refine z07 ?_ | refine z04 ?_ | refine z05 ?_ | (show W _ _ _ (.cond _ _ _) _ _; refine z01 rfl ?_) | (refine hN _ ?_; try clear hN hE hR Qs) | ((first | refine hE _ _ ?_ | refine hR _ ?_); try clear hN hE hR Qs) | ((first | refine kN _ ?_ | refine kE _ ?_ | refine kX _ _ rfl ?_ | refine kR _ ?_); try clear kN kE kX kR Qb)) | (refine z0c f0 ?_) | (refine z0b f1 ?_) | (refine z0b fl ?_) | (refine zaL ⟨by omega, by decide⟩ ?_) | (refine z16 (n := nat_lit 2) ?_) | (refine ccA ([]) (cl) ?_) | (refine And.intro (by simp only [List.length_append, List.length_cons, List.length_nil]; omega) ?_) | (refine And.intro (by rw [List.length_append, List.length_append]; simp only [List.length_cons, List.length_nil]; omega) ?_) | (refine stpQ ?_))
      (refine z09 (by rfl) ?_ ?_ (by rfl)) <;> (repeat' (first | (exact eqA) | (refine And.intro ?_ ?_) | ((fail_if_success (with_reducible (show _ = _))); (show _ = _)))) <;> first | rfl | (rw [e]; done)
     ·have fl : ¬ (sA.length : Int) < 4000 := by omega
      have e : endB k y sA = sA := by unfold endB; rw [if_neg hk0, if_pos hk1, if_neg hlt]
      repeat ((try conv => whnf); first | (with_reducible first | refine z08 (fun Qs hN hE hR => ?_) | refine z06 ?_ | refine z00 (fun Qb kN kE kX kR => ?_) | refine z02 ?_ | refine z03 ?_ | refine z07 ?_ | refine z04 ?_ | refine z05 ?_ | (show W _ _ _ (.cond _ _ _) _ _; refine z01 rfl ?_) | (refine hN _ ?_; try clear hN hE hR Qs) | ((first | refine hE _ _ ?_ | refine hR _ ?_); try clear hN hE hR Qs) | ((first | refine kN _ ?_ | refine kE _ ?_ | refine kX _ _ rfl ?_ | refine kR _ ?_); try clear kN kE kX kR Qb)) | (refine z0c f0 ?_) | (refine z0b f1 ?_) | (refine z0c fl ?_) | (refine stpQ ?_))
      (refine z09 (by rfl) ?_ ?_ (by rfl)) <;> (repeat' (first | (exact eqA) | (refine And.intro ?_ ?_) | ((fail_if_success (with_reducible (show _ = _))); (show _ = _)))) <;> first | rfl | (rw [e]; done)
    have f1 : ¬ (k : Int) = 1 := by omega
    by_cases hk2 : k = 2
    ·have f2 : (k : Int) = 2 := by omega
     have e : endB k y sA = sA.take (sA.length - 1) := by unfold endB; rw [if_neg hk0, if_neg hk1, if_pos hk2]
     repeat ((try conv => whnf); first | (with_reducible first | refine z08 (fun Qs hN hE hR => ?_) | refine z06 ?_ | refine z00 (fun Qb kN kE kX kR => ?_) | refine z02 ?_ | refine z03 ?_ | refine z07 ?_ | refine z04 ?_ | refine z05 ?_ | (show W _ _ _ (.cond _ _ _) _ _; refine z01 rfl ?_) | (refine hN _ ?_; try clear hN hE hR Qs) | ((first | refine hE _ _ ?_ | refine hR _ ?_); try clear hN hE hR Qs) | ((first | refine kN _ ?_ | refine kE _ ?_ | refine kX _ _ rfl ?_ | refine kR _ ?_); try clear kN kE kX kR Qb)) | (refine z0c f0 ?_) | (refine z0c f1 ?_) | (refine z0b f2 ?_) | (refine stpQ ?_))
     (refine z09 (by rfl) ?_ ?_ (by rfl)) <;> (repeat' (first | (exact eqA) | (refine And.intro ?_ ?_) | ((fail_if_success (with_reducible (show _ = _))); (show _ = _)))) <;> first | rfl | (rw [e]; done)
    have f2 : ¬ (k : Int) = 2 := by omega
    by_cases hk3 : k = 3
    ·have f3 : (k : Int) = 3 := by omega
     have e : endB k y sA = repB sA [116, 101, 108, 108, 32, 48, 10] 80 := by unfold endB; rw [if_neg hk0, if_neg hk1, if_neg hk2, if_pos hk3]
     have lr := fun j => z1C sA [116, 101, 108, 108, 32, 48, 10] j
     have r0 := z6Y sA [116, 101, 108, 108, 32, 48, 10]
     have rS := z6Z sA [116, 101, 108, 108, 32, 48, 10]
     repeat ((try conv => whnf); first | (with_reducible first | refine z08 (fun Qs hN hE hR => ?_) | refine z06 ?_ | refine z00 (fun Qb kN kE kX kR => ?_) | refine z02 ?_ | refine z03 ?_ | refine z07 ?_ | refine z04 ?_ | refine z05 ?_ | (show W _ _ _ (.cond _ _ _) _ _; refine z01 rfl ?_) | (refine hN _ ?_; try clear hN hE hR Qs) | ((first | refine hE _ _ ?_ | refine hR _ ?_); try clear hN hE hR Qs) | ((first | refine kN _ ?_ | refine kE _ ?_ | refine kX _ _ rfl ?_ | refine kR _ ?_); try clear kN kE kX kR Qb)) | (refine z0c f0 ?_) | (refine z0c f1 ?_) | (refine z0c f2 ?_) | (refine z0b f3 ?_) | (refine stpQ ?_))
     refine z0A 5 ⟨[(10, .str (repB sA [116, 101, 108, 108, 32, 48, 10] 80))], [], 1⟩ Nat (fun j => ⟨[(10, .str (repB sA [116, 101, 108, 108, 32, 48, 10] j)), (14, .int .i64 (j : Int))], [], 1⟩) (fun j => j ≤ 80) (fun j => 80 - j) 0 (by omega) ?_ ?_ ?_
     ·(refine z0a (by rfl) ?_ ?_) <;> (repeat' (first | (exact eqA) | (refine And.intro ?_ ?_) | ((fail_if_success (with_reducible (show _ = _))); (show _ = _)))) <;> first | rfl | (rw [r0]; done)
     ·intro j hj
      by_cases hlt : j < 80
      ·have f : (j : Int) < 80 := by omega
       have lj := lr j
       have rj := rS j
       clear lr rS r0 e
       generalize repB sA [116, 101, 108, 108, 32, 48, 10] j = sj at *
       have lj2 : sj.length ≤ 50000 := by simp only [List.length_cons, List.length_nil] at lj; omega
       repeat ((try conv => whnf); first | (with_reducible first | refine z08 (fun Qs hN hE hR => ?_) | refine z06 ?_ | refine z00 (fun Qb kN kE kX kR => ?_) | refine z02 ?_ | refine z03 ?_ | refine z07 ?_ | refine z04 ?_ | refine z05 ?_ | (show W _ _ _ (.cond _ _ _) _ _; refine z01 rfl ?_) | (refine hN _ ?_; try clear hN hE hR Qs) | ((first | refine hE _ _ ?_ | refine hR _ ?_); try clear hN hE hR Qs) | ((first | refine kN _ ?_ | refine kE _ ?_ | refine kX _ _ rfl ?_ | refine kR _ ?_); try clear kN kE kX kR Qb)) | (refine z0b f ?_) | (refine And.intro (by simp only [List.length_append, List.length_cons, List.length_nil]; omega) ?_) | (refine stpQ ?_))
       refine ⟨j + 1, by omega, by omega, ?_⟩
       (refine z0a (by rfl) ?_ ?_) <;> (repeat' (first | (exact eqA) | (refine And.intro ?_ ?_) | ((fail_if_success (with_reducible (show _ = _))); (show _ = _)))) <;> first | rfl | (rw [rj]; done)
      ·obtain rfl : j = 80 := by omega
       have f : ¬ ((80 : Nat) : Int) < 80 := by omega
       repeat ((try conv => whnf); first | (with_reducible first | refine z08 (fun Qs hN hE hR => ?_) | refine z06 ?_ | refine z00 (fun Qb kN kE kX kR => ?_) | refine z02 ?_ | refine z03 ?_ | refine z07 ?_ | refine z04 ?_ | refine z05 ?_ | (show W _ _ _ (.cond _ _ _) _ _; refine z01 rfl ?_) | (refine hN _ ?_; try clear hN hE hR Qs) | ((first | refine hE _ _ ?_ | refine hR _ ?_); try clear hN hE hR Qs) | ((first | refine kN _ ?_ | refine kE _ ?_ | refine kX _ _ rfl ?_ | refine kR _ ?_); try clear kN kE kX kR Qb)) | (refine z0c f ?_) | (refine stpQ ?_))
       (refine z0a (by rfl) ?_ ?_) <;> (repeat' (first | (exact eqA) | (refine And.intro ?_ ?_) | ((fail_if_success (with_reducible (show _ = _))); (show _ = _))))
     ·repeat ((try conv => whnf); first | (with_reducible first | refine z08 (fun Qs hN hE hR => ?_) | refine z06 ?_ | refine z00 (fun Qb kN kE kX kR => ?_) | refine z02 ?_ | refine z03 ?_ | refine z07 ?_ | refine z04 ?_ | refine z05 ?_ | (show W _ _ _ (.cond _ _ _) _ _; refine z01 rfl ?_) | (refine hN _ ?_; try clear hN hE hR Qs) | ((first | refine hE _ _ ?_ | refine hR _ ?_); try clear hN hE hR Qs) | ((first | refine kN _ ?_ | refine kE _ ?_ | refine kX _ _ rfl ?_ | refine kR _ ?_); try clear kN kE kX kR Qb)) | (refine stpQ ?_))
      (refine z09 (by rfl) ?_ ?_ (by rfl)) <;> (repeat' (first | (exact eqA) | (refine And.intro ?_ ?_) | ((fail_if_success (with_reducible (show _ = _))); (show _ = _)))) <;> first | rfl | (rw [e]; done)
    have f3 : ¬ (k : Int) = 3 := by omega
    by_cases hk4 : k = 4
    ·have f4 : (k : Int) = 4 := by omega
     have e : endB k y sA = repB sA [97, 115, 107, 32, 48, 32, 97, 110, 110, 32, 49, 10] 11 := by unfold endB; rw [if_neg hk0, if_neg hk1, if_neg hk2, if_neg hk3, if_pos hk4]
     have lr := fun j => z1C sA [97, 115, 107, 32, 48, 32, 97, 110, 110, 32, 49, 10] j
     have r0 := z6Y sA [97, 115, 107, 32, 48, 32, 97, 110, 110, 32, 49, 10]
     have rS := z6Z sA [97, 115, 107, 32, 48, 32, 97, 110, 110, 32, 49, 10]
     repeat ((try conv => whnf); first | (with_reducible first | refine z08 (fun Qs hN hE hR => ?_) | refine z06 ?_ | refine z00 (fun Qb kN kE kX kR => ?_) | refine z02 ?_ | refine z03 ?_ | refine z07 ?_ | refine z04 ?_ | refine z05 ?_ | (show W _ _ _ (.cond _ _ _) _ _; refine z01 rfl ?_) | (refine hN _ ?_; try clear hN hE hR Qs) | ((first | refine hE _ _ ?_ | refine hR _ ?_); try clear hN hE hR Qs) | ((first | refine kN _ ?_ | refine kE _ ?_ | refine kX _ _ rfl ?_ | refine kR _ ?_); try clear kN kE kX kR Qb)) | (refine z0c f0 ?_) | (refine z0c f1 ?_) | (refine z0c f2 ?_) | (refine z0c f3 ?_) | (refine z0b f4 ?_) | (refine stpQ ?_))
     refine z0A 7 ⟨[(10, .str (repB sA [97, 115, 107, 32, 48, 32, 97, 110, 110, 32, 49, 10] 11))], [], 1⟩ Nat (fun j => ⟨[(10, .str (repB sA [97, 115, 107, 32, 48, 32, 97, 110, 110, 32, 49, 10] j)), (15, .int .i64 (j : Int))], [], 1⟩) (fun j => j ≤ 11) (fun j => 11 - j) 0 (by omega) ?_ ?_ ?_
     ·(refine z0a (by rfl) ?_ ?_) <;> (repeat' (first | (exact eqA) | (refine And.intro ?_ ?_) | ((fail_if_success (with_reducible (show _ = _))); (show _ = _)))) <;> first | rfl | (rw [r0]; done)
     ·intro j hj
      by_cases hlt : j < 11
      ·have f : (j : Int) < 11 := by omega
       have lj := lr j
       have rj := rS j
       clear lr rS r0 e
       generalize repB sA [97, 115, 107, 32, 48, 32, 97, 110, 110, 32, 49, 10] j = sj at *
       have lj2 : sj.length ≤ 50000 := by simp only [List.length_cons, List.length_nil] at lj; omega
       repeat ((try conv => whnf); first | (with_reducible first | refine z08 (fun Qs hN hE hR => ?_) | refine z06 ?_ | refine z00 (fun Qb kN kE kX kR => ?_) | refine z02 ?_ | refine z03 ?_ | refine z07 ?_ | refine z04 ?_ | refine z05 ?_ | (show W _ _ _ (.cond _ _ _) _ _; refine z01 rfl ?_) | (refine hN _ ?_; try clear hN hE hR Qs) | ((first | refine hE _ _ ?_ | refine hR _ ?_); try clear hN hE hR Qs) | ((first | refine kN _ ?_ | refine kE _ ?_ | refine kX _ _ rfl ?_ | refine kR _ ?_); try clear kN kE kX kR Qb)) | (refine z0b f ?_) | (refine And.intro (by simp only [List.length_append, List.length_cons, List.length_nil]; omega) ?_) | (refine stpQ ?_))
       refine ⟨j + 1, by omega, by omega, ?_⟩
       (refine z0a (by rfl) ?_ ?_) <;> (repeat' (first | (exact eqA) | (refine And.intro ?_ ?_) | ((fail_if_success (with_reducible (show _ = _))); (show _ = _)))) <;> first | rfl | (rw [rj]; done)
      ·obtain rfl : j = 11 := by omega
       have f : ¬ ((11 : Nat) : Int) < 11 := by omega
       repeat ((try conv => whnf); first | (with_reducible first | refine z08 (fun Qs hN hE hR => ?_) | refine z06 ?_ | refine z00 (fun Qb kN kE kX kR => ?_) | refine z02 ?_ | refine z03 ?_ | refine z07 ?_ | refine z04 ?_ | refine z05 ?_ | (show W _ _ _ (.cond _ _ _) _ _; refine z01 rfl ?_) | (refine hN _ ?_; try clear hN hE hR Qs) | ((first | refine hE _ _ ?_ | refine hR _ ?_); try clear hN hE hR Qs) | ((first | refine kN _ ?_ | refine kE _ ?_ | refine kX _ _ rfl ?_ | refine kR _ ?_); try clear kN kE kX kR Qb)) | (refine z0c f ?_) | (refine stpQ ?_))
       (refine z0a (by rfl) ?_ ?_) <;> (repeat' (first | (exact eqA) | (refine And.intro ?_ ?_) | ((fail_if_success (with_reducible (show _ = _))); (show _ = _))))
     ·repeat ((try conv => whnf); first | (with_reducible first | refine z08 (fun Qs hN hE hR => ?_) | refine z06 ?_ | refine z00 (fun Qb kN kE kX kR => ?_) | refine z02 ?_ | refine z03 ?_ | refine z07 ?_ | refine z04 ?_ | refine z05 ?_ | (show W _ _ _ (.cond _ _ _) _ _; refine z01 rfl ?_) | (refine hN _ ?_; try clear hN hE hR Qs) | ((first | refine hE _ _ ?_ | refine hR _ ?_); try clear hN hE hR Qs) | ((first | refine kN _ ?_ | refine kE _ ?_ | refine kX _ _ rfl ?_ | refine kR _ ?_); try clear kN kE kX kR Qb)) | (refine stpQ ?_))
      (refine z09 (by rfl) ?_ ?_ (by rfl)) <;> (repeat' (first | (exact eqA) | (refine And.intro ?_ ?_) | ((fail_if_success (with_reducible (show _ = _))); (show _ = _)))) <;> first | rfl | (rw [e]; done)
    have f4 : ¬ (k : Int) = 4 := by omega
    have e : endB k y sA = sA := by unfold endB; rw [if_neg hk0, if_neg hk1, if_neg hk2, if_neg hk3, if_neg hk4]
    repeat ((try conv => whnf); first | (with_reducible first | refine z08 (fun Qs hN hE hR => ?_) | refine z06 ?_ | refine z00 (fun Qb kN kE kX kR => ?_) | refine z02 ?_ | refine z03 ?_ | refine z07 ?_ | refine z04 ?_ | refine z05 ?_ | (show W _ _ _ (.cond _ _ _) _ _; refine z01 rfl ?_) | (refine hN _ ?_; try clear hN hE hR Qs) | ((first | refine hE _ _ ?_ | refine hR _ ?_); try clear hN hE hR Qs) | ((first | refine kN _ ?_ | refine kE _ ?_ | refine kX _ _ rfl ?_ | refine kR _ ?_); try clear kN kE kX kR Qb)) | (refine z0c f0 ?_) | (refine z0c f1 ?_) | (refine z0c f2 ?_) | (refine z0c f3 ?_) | (refine z0c f4 ?_) | (refine stpQ ?_))
    (refine z09 (by rfl) ?_ ?_ (by rfl)) <;> (repeat' (first | (exact eqA) | (refine And.intro ?_ ?_) | ((fail_if_success (with_reducible (show _ = _))); (show _ = _)))) <;> first | rfl | (rw [e]; done)
end
end Go.Proofs.YtfgkjgfigjpkoaaDoor
