/- How large an argument is: what the functions sz.. of the exact laws answer. -/
import Derived.Test.YtbcgmjdfnjmhoaaGreatDoorXt
namespace Go.Proofs.YtbcgmjdfnjmhoaaGreatDoor
set_option maxRecDepth 100000
set_option maxHeartbeats 2000000
set_option linter.unusedVariables false
set_option linter.unusedSimpArgs false
set_option linter.unusedSectionVars false
open Go.RowKit Pl
attribute [local irreducible] z0F z0I z0T AnsP LeP
def szL (g : List T → Int → Int) : List (List T) → Int → Int
 | [], l => l
 | e :: es, l => if g e l < 0 then -1 else szL g es (g e l)
def lenT : List T → Nat
 | [.str s] => s.length
 | [.sl _ es] => es.length
 | _ => 0
def elsT : List T → List (List T)
 | [.sl _ es] => es
 | _ => []
def szG : Shp → List T → Int → Int
 | .int, _, l => l
 | .bool, _, l => l
 | .nop, _, l => l
 | .str, ts, l => if l - lenT ts < 0 then -1 else l - lenT ts
 | .sl _ s, ts, l => if l - lenT ts < 0 then -1 else szL (szG s) (elsT ts) (l - lenT ts)
 | .two a b, ts, l => if szG a (ts.take a.wd) l < 0 then -1 else szG b (ts.drop a.wd) (szG a (ts.take a.wd) l)
theorem zdM {g : List T → Int → Int} (hg : ∀ e l, 0 ≤ l → -1 ≤ g e l ∧ g e l ≤ l) : ∀ (es : List (List T)) (l : Int), 0 ≤ l → -1 ≤ szL g es l ∧ szL g es l ≤ l
 | [], l, h => by simp only [szL]; omega
 | e :: es, l, h => by
   simp only [szL]
   have := hg e l h
   split
   ·omega
   ·have := zdM hg es (g e l) (by omega); omega
theorem z43 : ∀ (s : Shp) (ts : List T) (l : Int), 0 ≤ l → -1 ≤ szG s ts l ∧ szG s ts l ≤ l
 | .int, _, l, h => by simp only [szG]; omega
 | .bool, _, l, h => by simp only [szG]; omega
 | .nop, _, l, h => by simp only [szG]; omega
 | .str, ts, l, h => by simp only [szG]; split <;> omega
 | .sl k s, ts, l, h => by
   simp only [szG]
   split
   ·omega
   ·have := zdM (fun e l h => z43 s e l h) (elsT ts) (l - lenT ts) (by omega); omega
 | .two a b, ts, l, h => by
   simp only [szG]
   have := z43 a (ts.take a.wd) l h
   split
   ·omega
   ·have := z43 b (ts.drop a.wd) (szG a (ts.take a.wd) l) (by omega); omega
theorem z9v {g : List T → Int → Int} {s : Shp} {M N : Nat} (hb : ∀ e l, 0 ≤ l → -1 ≤ g e l ∧ g e l ≤ l) (hg : ∀ e l, l ≤ (N : Int) → Fits M s e → 0 ≤ l → 0 ≤ g e l → Fits N s e) : ∀ (es : List (List T)) (l : Int), l ≤ (N : Int) → (∀ e ∈ es, Fits M s e) → 0 ≤ l → 0 ≤ szL g es l → ∀ e ∈ es, Fits N s e
 | [], l, _, _, _, _ => fun e he => by cases he
 | e0 :: es, l, hl, hf, h0, h => by
   simp only [szL] at h
   split at h
   ·omega
   ·rename_i hn
    have := hb e0 l h0
    intro e he
    rcases List.mem_cons.1 he with rfl | he
    ·exact hg _ _ hl (hf _ (by simp)) h0 (by omega)
    ·exact z9v hb hg es (g e0 l) (by omega) (fun e he => hf e (List.mem_cons_of_mem _ he)) (by omega) h e he
theorem z4j {M N : Nat} : ∀ (s : Shp) (ts : List T) (l : Int), l ≤ (N : Int) → Fits M s ts → 0 ≤ l → 0 ≤ szG s ts l → Fits N s ts
 | .int, _, _, _, q, _, _ => q
 | .bool, _, _, _, q, _, _ => q
 | .nop, _, _, _, q, _, _ => q
 | .str, _, l, hl, ⟨x, a, b⟩, h0, h => by
   subst a
   by_cases hn : l - (x.length : Int) < 0
   ·have e : szG .str [.str x] l = -1 := if_pos hn
    omega
   ·exact ⟨x, rfl, by omega⟩
 | .sl k s, _, l, hl, ⟨es, a, b, c⟩, h0, h => by
   subst a
   by_cases hn : l - (es.length : Int) < 0
   ·have e : szG (.sl k s) [.sl k es] l = -1 := if_pos hn
    omega
   ·have e : szG (.sl k s) [.sl k es] l = szL (szG s) es (l - es.length) := if_neg hn
    rw [e] at h
    exact ⟨es, rfl, by omega, z9v (fun e l h => z43 s e l h) (fun e l hl q h0 h => z4j s e l hl q h0 h) es _ (by omega) c (by omega) h⟩
 | .two a b, _, l, hl, ⟨x, y, e, p, q⟩, h0, h => by
   subst e
   have hw := p.len
   simp only [szG] at h
   rw [List.take_left' hw, List.drop_left' hw] at h
   have := z43 a x l h0
   split at h
   ·omega
   ·exact ⟨x, y, rfl, z4j a x l hl p h0 (by omega), z4j b y _ (by omega) q (by omega) h⟩
theorem zf1 {g : List T → Int → Int} (hg : ∀ e l, 0 ≤ l → g e l = l) : ∀ (es : List (List T)) (l : Int), 0 ≤ l → szL g es l = l
 | [], l, _ => rfl
 | e :: es, l, h => by
   have h1 := hg e l h
   show (if g e l < 0 then -1 else szL g es (g e l)) = l
   rw [if_neg (by omega), h1]
   exact zf1 hg es l h
theorem z8m {a b : Shp} {x y : List T} {l r : Int} (hw : x.length = a.wd) (h : szG a x l = r) (hr : r < 0) : szG (.two a b) (x ++ y) l = -1 := by
 simp only [szG]
 rw [List.take_left' hw, h, if_pos hr]
theorem z51 {a b : Shp} {x y : List T} {l r : Int} (hw : x.length = a.wd) (h : szG a x l = r) (hr : ¬ r < 0) : szG (.two a b) (x ++ y) l = szG b y r := by
 simp only [szG]
 rw [List.take_left' hw, List.drop_left' hw, h, if_neg hr]
theorem zc9 {s : Bs} {l : Int} (h : l - (s.length : Int) < 0) : szG .str [.str s] l = -1 := if_pos h
theorem z8n {s : Bs} {l : Int} (h : ¬ l - (s.length : Int) < 0) : szG .str [.str s] l = l - (s.length : Int) := if_neg h
theorem zdf {g : List T → Int → Int} {es : List (List T)} {i : Nat} {e : List T} {l : Int} (h : es[i]? = some e) : szL g (es.drop i) l = if g e l < 0 then -1 else szL g (es.drop (i + 1)) (g e l) := by
 obtain ⟨hi, rfl⟩ := List.getElem?_eq_some_iff.1 h
 rw [List.drop_eq_getElem_cons hi]; rfl
theorem zft (e : List T) (l : Int) (h : Fits maxLen z2x e) (hl : 0 ≤ l ∧ l ≤ 1048576) : CT Tryz.prog 199 [] [.agg e, .int .i64 l] (.int .i64 (szG z2x e l)) [] := by
 obtain ⟨s0, s1, rfl, qs0, qs1, -⟩ := z77 h
 clear h
 obtain ⟨R, hR⟩ : ∃ R, R = szG z2x [.str s0, .str s1] l := ⟨_, rfl⟩
 rw [← hR]
 have u0 : 0 ≤ l ∧ l ≤ 1048576 := by omega
 have m0 : (s0.length : Int) ≤ 9223372036854775807 := by have := qs0; unfold maxLen at this; omega
 by_cases h0 : l - (s0.length : Int) < 0
 ·have hE : R = -1 := hR.trans (z8m (x := [.str s0]) (y := [.str s1]) rfl (zc9 h0) (by decide))
  rw [hE]
  clear hR hE
  refine z01 z03 1 rfl Tryz.func199 rfl rfl rfl ?_
  repeat ((try conv => whnf); first | (refine stpQ ?_))
  (refine z00 (by rfl) ?_ ?_ (by rfl)) <;> (repeat' (first | (exact eqA) | (refine shE ?_) | (refine And.intro ?_ ?_)))
 have u1 : 0 ≤ l - (s0.length : Int) ∧ l - (s0.length : Int) ≤ 1048576 := by omega
 have m1 : (s1.length : Int) ≤ 9223372036854775807 := by have := qs1; unfold maxLen at this; omega
 by_cases h1 : l - (s0.length : Int) - (s1.length : Int) < 0
 ·have hE : R = -1 := hR.trans ((z51 (x := [.str s0]) (y := [.str s1]) rfl (z8n h0) h0).trans (z8m (x := [.str s1]) (y := []) rfl (zc9 h1) (by decide)))
  rw [hE]
  clear hR hE
  refine z01 z03 1 rfl Tryz.func199 rfl rfl rfl ?_
  repeat ((try conv => whnf); first | (refine stpQ ?_))
  (refine z00 (by rfl) ?_ ?_ (by rfl)) <;> (repeat' (first | (exact eqA) | (refine shE ?_) | (refine And.intro ?_ ?_)))
 have hE : R = l - (s0.length : Int) - (s1.length : Int) := hR.trans ((z51 (x := [.str s0]) (y := [.str s1]) rfl (z8n h0) h0).trans ((z51 (x := [.str s1]) (y := []) rfl (z8n h1) h1).trans (rfl)))
 rw [hE]
 clear hR hE
 refine z01 z03 1 rfl Tryz.func199 rfl rfl rfl ?_
 repeat ((try conv => whnf); first | (refine stpQ ?_))
 (refine z00 (by rfl) ?_ ?_ (by rfl)) <;> (repeat' (first | (exact eqA) | (refine shE ?_) | (refine And.intro ?_ ?_)))
theorem zf7 (e : List T) (l : Int) (h : Fits maxLen z1S e) (hl : 0 ≤ l ∧ l ≤ 1048576) : CT Tryz.prog 155 [] [.agg e, .int .i64 l] (.int .i64 (szG z1S e l)) [] := by
 obtain ⟨n0, s1, s2, rfl, qn0, qs1, qs2, -⟩ := z4N h
 clear h
 obtain ⟨R, hR⟩ : ∃ R, R = szG z1S [.int .i64 n0, .str s1, .str s2] l := ⟨_, rfl⟩
 rw [← hR]
 have k0 : ¬ l < 0 := by omega
 have u0 : 0 ≤ l ∧ l ≤ 1048576 := by omega
 have m0 : (s1.length : Int) ≤ 9223372036854775807 := by have := qs1; unfold maxLen at this; omega
 by_cases h0 : l - (s1.length : Int) < 0
 ·have hE : R = -1 := hR.trans ((z51 (r := l) (x := [.int .i64 n0]) (y := [.str s1, .str s2]) rfl rfl k0).trans (z8m (x := [.str s1]) (y := [.str s2]) rfl (zc9 h0) (by decide)))
  rw [hE]
  clear hR hE
  refine z01 z03 1 rfl Tryz.func155 rfl rfl rfl ?_
  repeat ((try conv => whnf); first | (refine stpQ ?_))
  (refine z00 (by rfl) ?_ ?_ (by rfl)) <;> (repeat' (first | (exact eqA) | (refine shE ?_) | (refine And.intro ?_ ?_)))
 have u1 : 0 ≤ l - (s1.length : Int) ∧ l - (s1.length : Int) ≤ 1048576 := by omega
 have m1 : (s2.length : Int) ≤ 9223372036854775807 := by have := qs2; unfold maxLen at this; omega
 by_cases h1 : l - (s1.length : Int) - (s2.length : Int) < 0
 ·have hE : R = -1 := hR.trans ((z51 (r := l) (x := [.int .i64 n0]) (y := [.str s1, .str s2]) rfl rfl k0).trans ((z51 (x := [.str s1]) (y := [.str s2]) rfl (z8n h0) h0).trans (z8m (x := [.str s2]) (y := []) rfl (zc9 h1) (by decide))))
  rw [hE]
  clear hR hE
  refine z01 z03 1 rfl Tryz.func155 rfl rfl rfl ?_
  repeat ((try conv => whnf); first | (refine stpQ ?_))
  (refine z00 (by rfl) ?_ ?_ (by rfl)) <;> (repeat' (first | (exact eqA) | (refine shE ?_) | (refine And.intro ?_ ?_)))
 have hE : R = l - (s1.length : Int) - (s2.length : Int) := hR.trans ((z51 (r := l) (x := [.int .i64 n0]) (y := [.str s1, .str s2]) rfl rfl k0).trans ((z51 (x := [.str s1]) (y := [.str s2]) rfl (z8n h0) h0).trans ((z51 (x := [.str s2]) (y := []) rfl (z8n h1) h1).trans (rfl))))
 rw [hE]
 clear hR hE
 refine z01 z03 1 rfl Tryz.func155 rfl rfl rfl ?_
 repeat ((try conv => whnf); first | (refine stpQ ?_))
 (refine z00 (by rfl) ?_ ?_ (by rfl)) <;> (repeat' (first | (exact eqA) | (refine shE ?_) | (refine And.intro ?_ ?_)))
theorem zdg (e : List T) (l : Int) (h : Fits maxLen z0s e) (hl : 0 ≤ l ∧ l ≤ 1048576) : CT Tryz.prog 112 [] [.agg e, .int .i64 l] (.int .i64 (szG z0s e l)) [] := by
 obtain ⟨s0, s1, n2, rfl, qs0, qs1, qn2, -⟩ := z1n h
 clear h
 obtain ⟨R, hR⟩ : ∃ R, R = szG z0s [.str s0, .str s1, .int .i64 n2] l := ⟨_, rfl⟩
 rw [← hR]
 have u0 : 0 ≤ l ∧ l ≤ 1048576 := by omega
 have m0 : (s0.length : Int) ≤ 9223372036854775807 := by have := qs0; unfold maxLen at this; omega
 by_cases h0 : l - (s0.length : Int) < 0
 ·have hE : R = -1 := hR.trans (z8m (x := [.str s0]) (y := [.str s1, .int .i64 n2]) rfl (zc9 h0) (by decide))
  rw [hE]
  clear hR hE
  refine z01 z03 1 rfl Tryz.func112 rfl rfl rfl ?_
  repeat ((try conv => whnf); first | (refine stpQ ?_))
  (refine z00 (by rfl) ?_ ?_ (by rfl)) <;> (repeat' (first | (exact eqA) | (refine shE ?_) | (refine And.intro ?_ ?_)))
 have u1 : 0 ≤ l - (s0.length : Int) ∧ l - (s0.length : Int) ≤ 1048576 := by omega
 have m1 : (s1.length : Int) ≤ 9223372036854775807 := by have := qs1; unfold maxLen at this; omega
 by_cases h1 : l - (s0.length : Int) - (s1.length : Int) < 0
 ·have hE : R = -1 := hR.trans ((z51 (x := [.str s0]) (y := [.str s1, .int .i64 n2]) rfl (z8n h0) h0).trans (z8m (x := [.str s1]) (y := [.int .i64 n2]) rfl (zc9 h1) (by decide)))
  rw [hE]
  clear hR hE
  refine z01 z03 1 rfl Tryz.func112 rfl rfl rfl ?_
  repeat ((try conv => whnf); first | (refine stpQ ?_))
  (refine z00 (by rfl) ?_ ?_ (by rfl)) <;> (repeat' (first | (exact eqA) | (refine shE ?_) | (refine And.intro ?_ ?_)))
 have k2 : ¬ l - (s0.length : Int) - (s1.length : Int) < 0 := by omega
 have hE : R = l - (s0.length : Int) - (s1.length : Int) := hR.trans ((z51 (x := [.str s0]) (y := [.str s1, .int .i64 n2]) rfl (z8n h0) h0).trans ((z51 (x := [.str s1]) (y := [.int .i64 n2]) rfl (z8n h1) h1).trans ((z51 (r := l - (s0.length : Int) - (s1.length : Int)) (x := [.int .i64 n2]) (y := []) rfl rfl k2).trans (rfl))))
 rw [hE]
 clear hR hE
 refine z01 z03 1 rfl Tryz.func112 rfl rfl rfl ?_
 repeat ((try conv => whnf); first | (refine stpQ ?_))
 (refine z00 (by rfl) ?_ ?_ (by rfl)) <;> (repeat' (first | (exact eqA) | (refine shE ?_) | (refine And.intro ?_ ?_)))
theorem zca (z : List (List T)) (l : Int) (h : z.length ≤ maxLen ∧ ∀ e ∈ z, Fits maxLen z0s e) (hl : 0 ≤ l ∧ l ≤ 1048576) : CT Tryz.prog 41 [] [.sl 3 z, .int .i64 l] (.int .i64 (szG (.sl 3 z0s) [.sl 3 z] l)) [] := by
 obtain ⟨hn, hz⟩ := h
 have hn2 : (z.length : Int) ≤ 9223372036854775807 := by unfold maxLen at hn; omega
 by_cases h0 : l - (z.length : Int) < 0
 ·have e : szG (.sl 3 z0s) [.sl 3 z] l = -1 := by simp [szG, lenT, h0]
  rw [e]
  refine z01 z03 1 rfl Tryz.func41 rfl rfl rfl ?_
  repeat ((try conv => whnf); first | (refine stpQ ?_))
  (refine z00 (by rfl) ?_ ?_ (by rfl)) <;> (repeat' (first | (exact eqA) | (refine shE ?_) | (refine And.intro ?_ ?_)))
 have e : szG (.sl 3 z0s) [.sl 3 z] l = szL (szG z0s) z (l - z.length) := by simp [szG, lenT, elsT, h0]
 rw [e]
 clear e
 generalize hR : szL (szG z0s) z (l - z.length) = R
 refine z01 z03 1 rfl Tryz.func41 rfl rfl rfl ?_
 repeat ((try conv => whnf); first | (refine stpQ ?_))
 refine z0y (Nat × Int) (fun x => ⟨[(0, .sl 3 z), (1, .int .i64 x.2), (5, .int .i64 (x.1 : Int))], [], 1⟩) (fun x => (x.1 ≤ z.length ∧ 0 ≤ x.2 ∧ x.2 ≤ 1048576) ∧ szL (szG z0s) (z.drop x.1) x.2 = R) (fun x => z.length - x.1) (0, l - z.length) ⟨⟨Nat.zero_le _, by show (0 : Int) ≤ l - z.length; omega, by show l - z.length ≤ (1048576 : Int); omega⟩, hR⟩ ?_ ?_
 ·(refine z02 (by rfl) ?_ ?_) <;> (repeat' (first | (exact eqA) | (refine shE ?_) | (refine And.intro ?_ ?_))) <;> first | rfl | decide
 ·intro x hx
  obtain ⟨i, c⟩ := x
  have hi : i ≤ z.length := hx.1.1
  have hc0 : 0 ≤ c := hx.1.2.1
  have hc1 : c ≤ 1048576 := hx.1.2.2
  have hr : szL (szG z0s) (z.drop i) c = R := hx.2
  clear hx hR
  by_cases hlt : i < z.length
  ·have hi2 : (i : Int) < (z.length : Int) := by omega
   have hmem : z[i] ∈ z := List.getElem_mem hlt
   have gi : z[i]? = some z[i] := List.getElem?_eq_getElem hlt
   have hf := hz _ hmem
   rw [zdf gi] at hr
   generalize z[i] = e at hf gi hr
   obtain ⟨s0, s1, n2, rfl, -⟩ := z1n hf
   have cE := zdg [.str s0, .str s1, .int .i64 n2] c hf ⟨hc0, hc1⟩
   have hb := z43 z0s [.str s0, .str s1, .int .i64 n2] c hc0
   generalize szG z0s [.str s0, .str s1, .int .i64 n2] c = r at cE hb hr
   by_cases hneg : r < 0
   ·rw [if_pos hneg] at hr
    rw [← hr]
    repeat ((try conv => whnf); first | (refine i_at gi ?_) | (refine ccA ([]) (cE) ?_) | (refine stpQ ?_))
    (refine z00 (by rfl) ?_ ?_ (by rfl)) <;> (repeat' (first | (exact eqA) | (refine shE ?_) | (refine And.intro ?_ ?_)))
   ·rw [if_neg hneg] at hr
    repeat ((try conv => whnf); first | (refine i_at gi ?_) | (refine ccA ([]) (cE) ?_) | (refine stpQ ?_))
    refine ⟨(i + 1, r), ⟨⟨hlt, by show 0 ≤ r; omega, by show r ≤ 1048576; omega⟩, hr⟩, by show z.length - (i + 1) < z.length - i; omega, ?_⟩
    (refine z02 (by rfl) ?_ ?_) <;> (repeat' (first | (exact eqA) | (refine shE ?_) | (refine And.intro ?_ ?_)))
  ·obtain rfl : i = z.length := by omega
   rw [List.drop_length] at hr
   have hr2 : c = R := hr
   rw [← hr2]
   repeat ((try conv => whnf); first | (refine stpQ ?_))
   (refine z00 (by rfl) ?_ ?_ (by rfl)) <;> (repeat' (first | (exact eqA) | (refine shE ?_) | (refine And.intro ?_ ?_)))
theorem zdh (e : List T) (l : Int) (h : Fits maxLen z1b e) (hl : 0 ≤ l ∧ l ≤ 1048576) : CT Tryz.prog 9 [] [.agg e, .int .i64 l] (.int .i64 (szG z1b e l)) [] := by
 obtain ⟨z0, rfl, qz0, -⟩ := z26 h
 clear h
 obtain ⟨R, hR⟩ : ∃ R, R = szG z1b [.sl 3 z0] l := ⟨_, rfl⟩
 rw [← hR]
 have u0 : 0 ≤ l ∧ l ≤ 1048576 := by omega
 have c0 := zca z0 (l) qz0 u0
 have d0 := z43 (.sl 3 z0s) [.sl 3 z0] (l) u0.1
 generalize g0 : szG (.sl 3 z0s) [.sl 3 z0] (l) = r0 at c0 d0
 by_cases h0 : r0 < 0
 ·have hE : R = -1 := hR.trans (z8m (x := [.sl 3 z0]) (y := []) rfl g0 h0)
  rw [hE]
  clear hR hE
  refine z01 z03 1 rfl Tryz.func9 rfl rfl rfl ?_
  repeat ((try conv => whnf); first | (refine ccA ([]) (c0) ?_) | (refine stpQ ?_))
  (refine z00 (by rfl) ?_ ?_ (by rfl)) <;> (repeat' (first | (exact eqA) | (refine shE ?_) | (refine And.intro ?_ ?_)))
 have hE : R = r0 := hR.trans ((z51 (x := [.sl 3 z0]) (y := []) rfl g0 h0).trans (rfl))
 rw [hE]
 clear hR hE
 refine z01 z03 1 rfl Tryz.func9 rfl rfl rfl ?_
 repeat ((try conv => whnf); first | (refine ccA ([]) (c0) ?_) | (refine stpQ ?_))
 (refine z00 (by rfl) ?_ ?_ (by rfl)) <;> (repeat' (first | (exact eqA) | (refine shE ?_) | (refine And.intro ?_ ?_)))
theorem zff (z : List (List T)) (l : Int) (h : z.length ≤ maxLen ∧ ∀ e ∈ z, Fits maxLen z2x e) (hl : 0 ≤ l ∧ l ≤ 1048576) : CT Tryz.prog 154 [] [.sl 2 z, .int .i64 l] (.int .i64 (szG (.sl 2 z2x) [.sl 2 z] l)) [] := by
 obtain ⟨hn, hz⟩ := h
 have hn2 : (z.length : Int) ≤ 9223372036854775807 := by unfold maxLen at hn; omega
 by_cases h0 : l - (z.length : Int) < 0
 ·have e : szG (.sl 2 z2x) [.sl 2 z] l = -1 := by simp [szG, lenT, h0]
  rw [e]
  refine z01 z03 1 rfl Tryz.func154 rfl rfl rfl ?_
  repeat ((try conv => whnf); first | (refine stpQ ?_))
  (refine z00 (by rfl) ?_ ?_ (by rfl)) <;> (repeat' (first | (exact eqA) | (refine shE ?_) | (refine And.intro ?_ ?_)))
 have e : szG (.sl 2 z2x) [.sl 2 z] l = szL (szG z2x) z (l - z.length) := by simp [szG, lenT, elsT, h0]
 rw [e]
 clear e
 generalize hR : szL (szG z2x) z (l - z.length) = R
 refine z01 z03 1 rfl Tryz.func154 rfl rfl rfl ?_
 repeat ((try conv => whnf); first | (refine stpQ ?_))
 refine z0y (Nat × Int) (fun x => ⟨[(0, .sl 2 z), (1, .int .i64 x.2), (5, .int .i64 (x.1 : Int))], [], 1⟩) (fun x => (x.1 ≤ z.length ∧ 0 ≤ x.2 ∧ x.2 ≤ 1048576) ∧ szL (szG z2x) (z.drop x.1) x.2 = R) (fun x => z.length - x.1) (0, l - z.length) ⟨⟨Nat.zero_le _, by show (0 : Int) ≤ l - z.length; omega, by show l - z.length ≤ (1048576 : Int); omega⟩, hR⟩ ?_ ?_
 ·(refine z02 (by rfl) ?_ ?_) <;> (repeat' (first | (exact eqA) | (refine shE ?_) | (refine And.intro ?_ ?_))) <;> first | rfl | decide
 ·intro x hx
  obtain ⟨i, c⟩ := x
  have hi : i ≤ z.length := hx.1.1
  have hc0 : 0 ≤ c := hx.1.2.1
  have hc1 : c ≤ 1048576 := hx.1.2.2
  have hr : szL (szG z2x) (z.drop i) c = R := hx.2
  clear hx hR
  by_cases hlt : i < z.length
  ·have hi2 : (i : Int) < (z.length : Int) := by omega
   have hmem : z[i] ∈ z := List.getElem_mem hlt
   have gi : z[i]? = some z[i] := List.getElem?_eq_getElem hlt
   have hf := hz _ hmem
   rw [zdf gi] at hr
   generalize z[i] = e at hf gi hr
   obtain ⟨s0, s1, rfl, -⟩ := z77 hf
   have cE := zft [.str s0, .str s1] c hf ⟨hc0, hc1⟩
   have hb := z43 z2x [.str s0, .str s1] c hc0
   generalize szG z2x [.str s0, .str s1] c = r at cE hb hr
   by_cases hneg : r < 0
   ·rw [if_pos hneg] at hr
    rw [← hr]
    repeat ((try conv => whnf); first | (refine i_at gi ?_) | (refine ccA ([]) (cE) ?_) | (refine stpQ ?_))
    (refine z00 (by rfl) ?_ ?_ (by rfl)) <;> (repeat' (first | (exact eqA) | (refine shE ?_) | (refine And.intro ?_ ?_)))
   ·rw [if_neg hneg] at hr
    repeat ((try conv => whnf); first | (refine i_at gi ?_) | (refine ccA ([]) (cE) ?_) | (refine stpQ ?_))
    refine ⟨(i + 1, r), ⟨⟨hlt, by show 0 ≤ r; omega, by show r ≤ 1048576; omega⟩, hr⟩, by show z.length - (i + 1) < z.length - i; omega, ?_⟩
    (refine z02 (by rfl) ?_ ?_) <;> (repeat' (first | (exact eqA) | (refine shE ?_) | (refine And.intro ?_ ?_)))
  ·obtain rfl : i = z.length := by omega
   rw [List.drop_length] at hr
   have hr2 : c = R := hr
   rw [← hr2]
   repeat ((try conv => whnf); first | (refine stpQ ?_))
   (refine z00 (by rfl) ?_ ?_ (by rfl)) <;> (repeat' (first | (exact eqA) | (refine shE ?_) | (refine And.intro ?_ ?_)))
theorem zf8 (z : List (List T)) (l : Int) (h : z.length ≤ maxLen ∧ ∀ e ∈ z, Fits maxLen (.sl 2 z2x) e) (hl : 0 ≤ l ∧ l ≤ 1048576) : CT Tryz.prog 76 [] [.sl 1 z, .int .i64 l] (.int .i64 (szG (.sl 1 (.sl 2 z2x)) [.sl 1 z] l)) [] := by
 obtain ⟨hn, hz⟩ := h
 have hn2 : (z.length : Int) ≤ 9223372036854775807 := by unfold maxLen at hn; omega
 by_cases h0 : l - (z.length : Int) < 0
 ·have e : szG (.sl 1 (.sl 2 z2x)) [.sl 1 z] l = -1 := by simp [szG, lenT, h0]
  rw [e]
  refine z01 z03 1 rfl Tryz.func76 rfl rfl rfl ?_
  repeat ((try conv => whnf); first | (refine stpQ ?_))
  (refine z00 (by rfl) ?_ ?_ (by rfl)) <;> (repeat' (first | (exact eqA) | (refine shE ?_) | (refine And.intro ?_ ?_)))
 have e : szG (.sl 1 (.sl 2 z2x)) [.sl 1 z] l = szL (szG (.sl 2 z2x)) z (l - z.length) := by simp [szG, lenT, elsT, h0]
 rw [e]
 clear e
 generalize hR : szL (szG (.sl 2 z2x)) z (l - z.length) = R
 refine z01 z03 1 rfl Tryz.func76 rfl rfl rfl ?_
 repeat ((try conv => whnf); first | (refine stpQ ?_))
 refine z0y (Nat × Int) (fun x => ⟨[(0, .sl 1 z), (1, .int .i64 x.2), (5, .int .i64 (x.1 : Int))], [], 1⟩) (fun x => (x.1 ≤ z.length ∧ 0 ≤ x.2 ∧ x.2 ≤ 1048576) ∧ szL (szG (.sl 2 z2x)) (z.drop x.1) x.2 = R) (fun x => z.length - x.1) (0, l - z.length) ⟨⟨Nat.zero_le _, by show (0 : Int) ≤ l - z.length; omega, by show l - z.length ≤ (1048576 : Int); omega⟩, hR⟩ ?_ ?_
 ·(refine z02 (by rfl) ?_ ?_) <;> (repeat' (first | (exact eqA) | (refine shE ?_) | (refine And.intro ?_ ?_))) <;> first | rfl | decide
 ·intro x hx
  obtain ⟨i, c⟩ := x
  have hi : i ≤ z.length := hx.1.1
  have hc0 : 0 ≤ c := hx.1.2.1
  have hc1 : c ≤ 1048576 := hx.1.2.2
  have hr : szL (szG (.sl 2 z2x)) (z.drop i) c = R := hx.2
  clear hx hR
  by_cases hlt : i < z.length
  ·have hi2 : (i : Int) < (z.length : Int) := by omega
   have hmem : z[i] ∈ z := List.getElem_mem hlt
   have gi : z[i]? = some z[i] := List.getElem?_eq_getElem hlt
   have hf := hz _ hmem
   rw [zdf gi] at hr
   generalize z[i] = e at hf gi hr
   obtain ⟨es, rfl, hf1⟩ := hf
   have cE := zff es c hf1 ⟨hc0, hc1⟩
   have hb := z43 (.sl 2 z2x) [.sl 2 es] c hc0
   generalize szG (.sl 2 z2x) [.sl 2 es] c = r at cE hb hr
   by_cases hneg : r < 0
   ·rw [if_pos hneg] at hr
    rw [← hr]
    repeat ((try conv => whnf); first | (refine i_at gi ?_) | (refine ccA ([]) (cE) ?_) | (refine stpQ ?_))
    (refine z00 (by rfl) ?_ ?_ (by rfl)) <;> (repeat' (first | (exact eqA) | (refine shE ?_) | (refine And.intro ?_ ?_)))
   ·rw [if_neg hneg] at hr
    repeat ((try conv => whnf); first | (refine i_at gi ?_) | (refine ccA ([]) (cE) ?_) | (refine stpQ ?_))
    refine ⟨(i + 1, r), ⟨⟨hlt, by show 0 ≤ r; omega, by show r ≤ 1048576; omega⟩, hr⟩, by show z.length - (i + 1) < z.length - i; omega, ?_⟩
    (refine z02 (by rfl) ?_ ?_) <;> (repeat' (first | (exact eqA) | (refine shE ?_) | (refine And.intro ?_ ?_)))
  ·obtain rfl : i = z.length := by omega
   rw [List.drop_length] at hr
   have hr2 : c = R := hr
   rw [← hr2]
   repeat ((try conv => whnf); first | (refine stpQ ?_))
   (refine z00 (by rfl) ?_ ?_ (by rfl)) <;> (repeat' (first | (exact eqA) | (refine shE ?_) | (refine And.intro ?_ ?_)))
theorem zfu (z : List (List T)) (l : Int) (h : z.length ≤ maxLen ∧ ∀ e ∈ z, Fits maxLen .int e) (hl : 0 ≤ l ∧ l ≤ 1048576) : CT Tryz.prog 77 [] [.sl 1 z, .int .i64 l] (.int .i64 (szG (.sl 1 .int) [.sl 1 z] l)) [] := by
 obtain ⟨hn, hz⟩ := h
 have hn2 : (z.length : Int) ≤ 9223372036854775807 := by unfold maxLen at hn; omega
 by_cases h0 : l - (z.length : Int) < 0
 ·have e : szG (.sl 1 .int) [.sl 1 z] l = -1 := by simp [szG, lenT, h0]
  rw [e]
  refine z01 z03 1 rfl Tryz.func77 rfl rfl rfl ?_
  repeat ((try conv => whnf); first | (refine stpQ ?_))
  (refine z00 (by rfl) ?_ ?_ (by rfl)) <;> (repeat' (first | (exact eqA) | (refine shE ?_) | (refine And.intro ?_ ?_)))
 have e : szG (.sl 1 .int) [.sl 1 z] l = szL (szG .int) z (l - z.length) := by simp [szG, lenT, elsT, h0]
 rw [e]
 clear e
 have e := zf1 (g := szG .int) (fun e l h => rfl) z (l - z.length) (by omega)
 rw [e]
 refine z01 z03 1 rfl Tryz.func77 rfl rfl rfl ?_
 repeat ((try conv => whnf); first | (refine stpQ ?_))
 (refine z00 (by rfl) ?_ ?_ (by rfl)) <;> (repeat' (first | (exact eqA) | (refine shE ?_) | (refine And.intro ?_ ?_)))
theorem zeW (z : List (List T)) (l : Int) (h : z.length ≤ maxLen ∧ ∀ e ∈ z, Fits maxLen z1S e) (hl : 0 ≤ l ∧ l ≤ 1048576) : CT Tryz.prog 78 [] [.sl 3 z, .int .i64 l] (.int .i64 (szG (.sl 3 z1S) [.sl 3 z] l)) [] := by
 obtain ⟨hn, hz⟩ := h
 have hn2 : (z.length : Int) ≤ 9223372036854775807 := by unfold maxLen at hn; omega
 by_cases h0 : l - (z.length : Int) < 0
 ·have e : szG (.sl 3 z1S) [.sl 3 z] l = -1 := by simp [szG, lenT, h0]
  rw [e]
  refine z01 z03 1 rfl Tryz.func78 rfl rfl rfl ?_
  repeat ((try conv => whnf); first | (refine stpQ ?_))
  (refine z00 (by rfl) ?_ ?_ (by rfl)) <;> (repeat' (first | (exact eqA) | (refine shE ?_) | (refine And.intro ?_ ?_)))
 have e : szG (.sl 3 z1S) [.sl 3 z] l = szL (szG z1S) z (l - z.length) := by simp [szG, lenT, elsT, h0]
 rw [e]
 clear e
 generalize hR : szL (szG z1S) z (l - z.length) = R
 refine z01 z03 1 rfl Tryz.func78 rfl rfl rfl ?_
 repeat ((try conv => whnf); first | (refine stpQ ?_))
 refine z0y (Nat × Int) (fun x => ⟨[(0, .sl 3 z), (1, .int .i64 x.2), (5, .int .i64 (x.1 : Int))], [], 1⟩) (fun x => (x.1 ≤ z.length ∧ 0 ≤ x.2 ∧ x.2 ≤ 1048576) ∧ szL (szG z1S) (z.drop x.1) x.2 = R) (fun x => z.length - x.1) (0, l - z.length) ⟨⟨Nat.zero_le _, by show (0 : Int) ≤ l - z.length; omega, by show l - z.length ≤ (1048576 : Int); omega⟩, hR⟩ ?_ ?_
 ·(refine z02 (by rfl) ?_ ?_) <;> (repeat' (first | (exact eqA) | (refine shE ?_) | (refine And.intro ?_ ?_))) <;> first | rfl | decide
 ·intro x hx
  obtain ⟨i, c⟩ := x
  have hi : i ≤ z.length := hx.1.1
  have hc0 : 0 ≤ c := hx.1.2.1
  have hc1 : c ≤ 1048576 := hx.1.2.2
  have hr : szL (szG z1S) (z.drop i) c = R := hx.2
  clear hx hR
  by_cases hlt : i < z.length
  ·have hi2 : (i : Int) < (z.length : Int) := by omega
   have hmem : z[i] ∈ z := List.getElem_mem hlt
   have gi : z[i]? = some z[i] := List.getElem?_eq_getElem hlt
   have hf := hz _ hmem
   rw [zdf gi] at hr
   generalize z[i] = e at hf gi hr
   obtain ⟨n0, s1, s2, rfl, -⟩ := z4N hf
   have cE := zf7 [.int .i64 n0, .str s1, .str s2] c hf ⟨hc0, hc1⟩
   have hb := z43 z1S [.int .i64 n0, .str s1, .str s2] c hc0
   generalize szG z1S [.int .i64 n0, .str s1, .str s2] c = r at cE hb hr
   by_cases hneg : r < 0
   ·rw [if_pos hneg] at hr
    rw [← hr]
    repeat ((try conv => whnf); first | (refine i_at gi ?_) | (refine ccA ([]) (cE) ?_) | (refine stpQ ?_))
    (refine z00 (by rfl) ?_ ?_ (by rfl)) <;> (repeat' (first | (exact eqA) | (refine shE ?_) | (refine And.intro ?_ ?_)))
   ·rw [if_neg hneg] at hr
    repeat ((try conv => whnf); first | (refine i_at gi ?_) | (refine ccA ([]) (cE) ?_) | (refine stpQ ?_))
    refine ⟨(i + 1, r), ⟨⟨hlt, by show 0 ≤ r; omega, by show r ≤ 1048576; omega⟩, hr⟩, by show z.length - (i + 1) < z.length - i; omega, ?_⟩
    (refine z02 (by rfl) ?_ ?_) <;> (repeat' (first | (exact eqA) | (refine shE ?_) | (refine And.intro ?_ ?_)))
  ·obtain rfl : i = z.length := by omega
   rw [List.drop_length] at hr
   have hr2 : c = R := hr
   rw [← hr2]
   repeat ((try conv => whnf); first | (refine stpQ ?_))
   (refine z00 (by rfl) ?_ ?_ (by rfl)) <;> (repeat' (first | (exact eqA) | (refine shE ?_) | (refine And.intro ?_ ?_)))
theorem zeM (e : List T) (l : Int) (h : Fits maxLen z2y e) (hl : 0 ≤ l ∧ l ≤ 1048576) : CT Tryz.prog 23 [] [.agg e, .int .i64 l] (.int .i64 (szG z2y e l)) [] := by
 obtain ⟨n0, n1, b2, z3, n4, z5, z6, z7, n8, n9, n10, rfl, qn0, qn1, qb2, qz3, qn4, qz5, qz6, qz7, qn8, qn9, qn10, -⟩ := z7Z h
 clear h
 obtain ⟨R, hR⟩ : ∃ R, R = szG z2y [.int .i64 n0, .int .i64 n1, .bool b2, .sl 3 z3, .int .i64 n4, .sl 1 z5, .sl 1 z6, .sl 3 z7, .int .i64 n8, .int .i64 n9, .int .i64 n10] l := ⟨_, rfl⟩
 rw [← hR]
 have k0 : ¬ l < 0 := by omega
 have k1 : ¬ l < 0 := by omega
 have k2 : ¬ l < 0 := by omega
 have u0 : 0 ≤ l ∧ l ≤ 1048576 := by omega
 have c0 := zdh [.sl 3 z3] (l) (zbp qz3) u0
 have d0 := z43 z1b [.sl 3 z3] (l) u0.1
 generalize g0 : szG z1b [.sl 3 z3] (l) = r0 at c0 d0
 by_cases h0 : r0 < 0
 ·have hE : R = -1 := hR.trans ((z51 (r := l) (x := [.int .i64 n0]) (y := [.int .i64 n1, .bool b2, .sl 3 z3, .int .i64 n4, .sl 1 z5, .sl 1 z6, .sl 3 z7, .int .i64 n8, .int .i64 n9, .int .i64 n10]) rfl rfl k0).trans ((z51 (r := l) (x := [.int .i64 n1]) (y := [.bool b2, .sl 3 z3, .int .i64 n4, .sl 1 z5, .sl 1 z6, .sl 3 z7, .int .i64 n8, .int .i64 n9, .int .i64 n10]) rfl rfl k1).trans ((z51 (r := l) (x := [.bool b2]) (y := [.sl 3 z3, .int .i64 n4, .sl 1 z5, .sl 1 z6, .sl 3 z7, .int .i64 n8, .int .i64 n9, .int .i64 n10]) rfl rfl k2).trans (z8m (x := [.sl 3 z3]) (y := [.int .i64 n4, .sl 1 z5, .sl 1 z6, .sl 3 z7, .int .i64 n8, .int .i64 n9, .int .i64 n10]) rfl g0 h0))))
  rw [hE]
  clear hR hE
  refine z01 z03 1 rfl Tryz.func23 rfl rfl rfl ?_
  repeat ((try conv => whnf); first | (refine ccA ([]) (c0) ?_) | (refine stpQ ?_))
  (refine z00 (by rfl) ?_ ?_ (by rfl)) <;> (repeat' (first | (exact eqA) | (refine shE ?_) | (refine And.intro ?_ ?_)))
 have k4 : ¬ r0 < 0 := by omega
 have u1 : 0 ≤ r0 ∧ r0 ≤ 1048576 := by omega
 have c1 := zf8 z5 (r0) qz5 u1
 have d1 := z43 (.sl 1 (.sl 2 z2x)) [.sl 1 z5] (r0) u1.1
 generalize g1 : szG (.sl 1 (.sl 2 z2x)) [.sl 1 z5] (r0) = r1 at c1 d1
 by_cases h1 : r1 < 0
 ·have hE : R = -1 := hR.trans ((z51 (r := l) (x := [.int .i64 n0]) (y := [.int .i64 n1, .bool b2, .sl 3 z3, .int .i64 n4, .sl 1 z5, .sl 1 z6, .sl 3 z7, .int .i64 n8, .int .i64 n9, .int .i64 n10]) rfl rfl k0).trans ((z51 (r := l) (x := [.int .i64 n1]) (y := [.bool b2, .sl 3 z3, .int .i64 n4, .sl 1 z5, .sl 1 z6, .sl 3 z7, .int .i64 n8, .int .i64 n9, .int .i64 n10]) rfl rfl k1).trans ((z51 (r := l) (x := [.bool b2]) (y := [.sl 3 z3, .int .i64 n4, .sl 1 z5, .sl 1 z6, .sl 3 z7, .int .i64 n8, .int .i64 n9, .int .i64 n10]) rfl rfl k2).trans ((z51 (x := [.sl 3 z3]) (y := [.int .i64 n4, .sl 1 z5, .sl 1 z6, .sl 3 z7, .int .i64 n8, .int .i64 n9, .int .i64 n10]) rfl g0 h0).trans ((z51 (r := r0) (x := [.int .i64 n4]) (y := [.sl 1 z5, .sl 1 z6, .sl 3 z7, .int .i64 n8, .int .i64 n9, .int .i64 n10]) rfl rfl k4).trans (z8m (x := [.sl 1 z5]) (y := [.sl 1 z6, .sl 3 z7, .int .i64 n8, .int .i64 n9, .int .i64 n10]) rfl g1 h1))))))
  rw [hE]
  clear hR hE
  refine z01 z03 1 rfl Tryz.func23 rfl rfl rfl ?_
  repeat ((try conv => whnf); first | (refine ccA ([]) (c0) ?_) | (refine ccA ([]) (c1) ?_) | (refine stpQ ?_))
  (refine z00 (by rfl) ?_ ?_ (by rfl)) <;> (repeat' (first | (exact eqA) | (refine shE ?_) | (refine And.intro ?_ ?_)))
 have u2 : 0 ≤ r1 ∧ r1 ≤ 1048576 := by omega
 have c2 := zfu z6 (r1) qz6 u2
 have d2 := z43 (.sl 1 .int) [.sl 1 z6] (r1) u2.1
 generalize g2 : szG (.sl 1 .int) [.sl 1 z6] (r1) = r2 at c2 d2
 by_cases h2 : r2 < 0
 ·have hE : R = -1 := hR.trans ((z51 (r := l) (x := [.int .i64 n0]) (y := [.int .i64 n1, .bool b2, .sl 3 z3, .int .i64 n4, .sl 1 z5, .sl 1 z6, .sl 3 z7, .int .i64 n8, .int .i64 n9, .int .i64 n10]) rfl rfl k0).trans ((z51 (r := l) (x := [.int .i64 n1]) (y := [.bool b2, .sl 3 z3, .int .i64 n4, .sl 1 z5, .sl 1 z6, .sl 3 z7, .int .i64 n8, .int .i64 n9, .int .i64 n10]) rfl rfl k1).trans ((z51 (r := l) (x := [.bool b2]) (y := [.sl 3 z3, .int .i64 n4, .sl 1 z5, .sl 1 z6, .sl 3 z7, .int .i64 n8, .int .i64 n9, .int .i64 n10]) rfl rfl k2).trans ((z51 (x := [.sl 3 z3]) (y := [.int .i64 n4, .sl 1 z5, .sl 1 z6, .sl 3 z7, .int .i64 n8, .int .i64 n9, .int .i64 n10]) rfl g0 h0).trans ((z51 (r := r0) (x := [.int .i64 n4]) (y := [.sl 1 z5, .sl 1 z6, .sl 3 z7, .int .i64 n8, .int .i64 n9, .int .i64 n10]) rfl rfl k4).trans ((z51 (x := [.sl 1 z5]) (y := [.sl 1 z6, .sl 3 z7, .int .i64 n8, .int .i64 n9, .int .i64 n10]) rfl g1 h1).trans (z8m (x := [.sl 1 z6]) (y := [.sl 3 z7, .int .i64 n8, .int .i64 n9, .int .i64 n10]) rfl g2 h2)))))))
  rw [hE]
  clear hR hE
  refine z01 z03 1 rfl Tryz.func23 rfl rfl rfl ?_
  repeat ((try conv => whnf); first | (refine ccA ([]) (c0) ?_) | (refine ccA ([]) (c1) ?_) | (refine ccA ([]) (c2) ?_) | (refine stpQ ?_))
  (refine z00 (by rfl) ?_ ?_ (by rfl)) <;> (repeat' (first | (exact eqA) | (refine shE ?_) | (refine And.intro ?_ ?_)))
 have u3 : 0 ≤ r2 ∧ r2 ≤ 1048576 := by omega
 have c3 := zeW z7 (r2) qz7 u3
 have d3 := z43 (.sl 3 z1S) [.sl 3 z7] (r2) u3.1
 generalize g3 : szG (.sl 3 z1S) [.sl 3 z7] (r2) = r3 at c3 d3
 by_cases h3 : r3 < 0
 ·have hE : R = -1 := hR.trans ((z51 (r := l) (x := [.int .i64 n0]) (y := [.int .i64 n1, .bool b2, .sl 3 z3, .int .i64 n4, .sl 1 z5, .sl 1 z6, .sl 3 z7, .int .i64 n8, .int .i64 n9, .int .i64 n10]) rfl rfl k0).trans ((z51 (r := l) (x := [.int .i64 n1]) (y := [.bool b2, .sl 3 z3, .int .i64 n4, .sl 1 z5, .sl 1 z6, .sl 3 z7, .int .i64 n8, .int .i64 n9, .int .i64 n10]) rfl rfl k1).trans ((z51 (r := l) (x := [.bool b2]) (y := [.sl 3 z3, .int .i64 n4, .sl 1 z5, .sl 1 z6, .sl 3 z7, .int .i64 n8, .int .i64 n9, .int .i64 n10]) rfl rfl k2).trans ((z51 (x := [.sl 3 z3]) (y := [.int .i64 n4, .sl 1 z5, .sl 1 z6, .sl 3 z7, .int .i64 n8, .int .i64 n9, .int .i64 n10]) rfl g0 h0).trans ((z51 (r := r0) (x := [.int .i64 n4]) (y := [.sl 1 z5, .sl 1 z6, .sl 3 z7, .int .i64 n8, .int .i64 n9, .int .i64 n10]) rfl rfl k4).trans ((z51 (x := [.sl 1 z5]) (y := [.sl 1 z6, .sl 3 z7, .int .i64 n8, .int .i64 n9, .int .i64 n10]) rfl g1 h1).trans ((z51 (x := [.sl 1 z6]) (y := [.sl 3 z7, .int .i64 n8, .int .i64 n9, .int .i64 n10]) rfl g2 h2).trans (z8m (x := [.sl 3 z7]) (y := [.int .i64 n8, .int .i64 n9, .int .i64 n10]) rfl g3 h3))))))))
  rw [hE]
  clear hR hE
  refine z01 z03 1 rfl Tryz.func23 rfl rfl rfl ?_
  repeat ((try conv => whnf); first | (refine ccA ([]) (c0) ?_) | (refine ccA ([]) (c1) ?_) | (refine ccA ([]) (c2) ?_) | (refine ccA ([]) (c3) ?_) | (refine stpQ ?_))
  (refine z00 (by rfl) ?_ ?_ (by rfl)) <;> (repeat' (first | (exact eqA) | (refine shE ?_) | (refine And.intro ?_ ?_)))
 have k8 : ¬ r3 < 0 := by omega
 have f8 : szG z4h [.int .i64 n8, .int .i64 n9, .int .i64 n10] (r3) = r3 := by simp [szG, z4h, k8]
 have hE : R = r3 := hR.trans ((z51 (r := l) (x := [.int .i64 n0]) (y := [.int .i64 n1, .bool b2, .sl 3 z3, .int .i64 n4, .sl 1 z5, .sl 1 z6, .sl 3 z7, .int .i64 n8, .int .i64 n9, .int .i64 n10]) rfl rfl k0).trans ((z51 (r := l) (x := [.int .i64 n1]) (y := [.bool b2, .sl 3 z3, .int .i64 n4, .sl 1 z5, .sl 1 z6, .sl 3 z7, .int .i64 n8, .int .i64 n9, .int .i64 n10]) rfl rfl k1).trans ((z51 (r := l) (x := [.bool b2]) (y := [.sl 3 z3, .int .i64 n4, .sl 1 z5, .sl 1 z6, .sl 3 z7, .int .i64 n8, .int .i64 n9, .int .i64 n10]) rfl rfl k2).trans ((z51 (x := [.sl 3 z3]) (y := [.int .i64 n4, .sl 1 z5, .sl 1 z6, .sl 3 z7, .int .i64 n8, .int .i64 n9, .int .i64 n10]) rfl g0 h0).trans ((z51 (r := r0) (x := [.int .i64 n4]) (y := [.sl 1 z5, .sl 1 z6, .sl 3 z7, .int .i64 n8, .int .i64 n9, .int .i64 n10]) rfl rfl k4).trans ((z51 (x := [.sl 1 z5]) (y := [.sl 1 z6, .sl 3 z7, .int .i64 n8, .int .i64 n9, .int .i64 n10]) rfl g1 h1).trans ((z51 (x := [.sl 1 z6]) (y := [.sl 3 z7, .int .i64 n8, .int .i64 n9, .int .i64 n10]) rfl g2 h2).trans ((z51 (x := [.sl 3 z7]) (y := [.int .i64 n8, .int .i64 n9, .int .i64 n10]) rfl g3 h3).trans ((z51 (x := [.int .i64 n8, .int .i64 n9, .int .i64 n10]) (y := []) rfl f8 k8).trans (rfl))))))))))
 rw [hE]
 clear hR hE
 refine z01 z03 1 rfl Tryz.func23 rfl rfl rfl ?_
 repeat ((try conv => whnf); first | (refine ccA ([]) (c0) ?_) | (refine ccA ([]) (c1) ?_) | (refine ccA ([]) (c2) ?_) | (refine ccA ([]) (c3) ?_) | (refine stpQ ?_))
 (refine z00 (by rfl) ?_ ?_ (by rfl)) <;> (repeat' (first | (exact eqA) | (refine shE ?_) | (refine And.intro ?_ ?_)))
end Go.Proofs.YtbcgmjdfnjmhoaaGreatDoor
