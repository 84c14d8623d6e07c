/- How large an argument is: what the functions sz.. of the exact laws answer. -/
import Derived.Test.YtnhcfmmdaihneaaGreatDoorXt
namespace Go.Proofs.YtnhcfmmdaihneaaGreatDoor
set_option maxRecDepth 100000
set_option maxHeartbeats 2000000
set_option linter.unusedVariables false
set_option linter.unusedSimpArgs false
set_option linter.unusedSectionVars false
open Go.RowKit Pl
attribute [local irreducible] z0w z0x z0A AnsP LeP
def szL (g : List T → Int → Int) : List (List T) → Int → Int
 | [], l => l
 | e :: es, l => if g e l < 0 then -1 else szL g es (g e l)
def lenT : List T → Nat
 | [.str s] => s.length
 | [.sl _ es] => es.length
 | _ => 0
def elsT : List T → List (List T)
 | [.sl _ es] => es
 | _ => []
def szG : Shp → List T → Int → Int
 | .int, _, l => l
 | .bool, _, l => l
 | .nop, _, l => l
 | .str, ts, l => if l - lenT ts < 0 then -1 else l - lenT ts
 | .sl _ s, ts, l => if l - lenT ts < 0 then -1 else szL (szG s) (elsT ts) (l - lenT ts)
 | .two a b, ts, l => if szG a (ts.take a.wd) l < 0 then -1 else szG b (ts.drop a.wd) (szG a (ts.take a.wd) l)
theorem zk5 {g : List T → Int → Int} (hg : ∀ e l, 0 ≤ l → -1 ≤ g e l ∧ g e l ≤ l) : ∀ (es : List (List T)) (l : Int), 0 ≤ l → -1 ≤ szL g es l ∧ szL g es l ≤ l
 | [], l, h => by simp only [szL]; omega
 | e :: es, l, h => by
   simp only [szL]
   have := hg e l h
   split
   ·omega
   ·have := zk5 hg es (g e l) (by omega); omega
theorem z1R : ∀ (s : Shp) (ts : List T) (l : Int), 0 ≤ l → -1 ≤ szG s ts l ∧ szG s ts l ≤ l
 | .int, _, l, h => by simp only [szG]; omega
 | .bool, _, l, h => by simp only [szG]; omega
 | .nop, _, l, h => by simp only [szG]; omega
 | .str, ts, l, h => by simp only [szG]; split <;> omega
 | .sl k s, ts, l, h => by
   simp only [szG]
   split
   ·omega
   ·have := zk5 (fun e l h => z1R s e l h) (elsT ts) (l - lenT ts) (by omega); omega
 | .two a b, ts, l, h => by
   simp only [szG]
   have := z1R a (ts.take a.wd) l h
   split
   ·omega
   ·have := z1R b (ts.drop a.wd) (szG a (ts.take a.wd) l) (by omega); omega
theorem ze5 {g : List T → Int → Int} {s : Shp} {M N : Nat} (hb : ∀ e l, 0 ≤ l → -1 ≤ g e l ∧ g e l ≤ l) (hg : ∀ e l, l ≤ (N : Int) → Fits M s e → 0 ≤ l → 0 ≤ g e l → Fits N s e) : ∀ (es : List (List T)) (l : Int), l ≤ (N : Int) → (∀ e ∈ es, Fits M s e) → 0 ≤ l → 0 ≤ szL g es l → ∀ e ∈ es, Fits N s e
 | [], l, _, _, _, _ => fun e he => by cases he
 | e0 :: es, l, hl, hf, h0, h => by
   simp only [szL] at h
   split at h
   ·omega
   ·rename_i hn
    have := hb e0 l h0
    intro e he
    rcases List.mem_cons.1 he with rfl | he
    ·exact hg _ _ hl (hf _ (by simp)) h0 (by omega)
    ·exact ze5 hb hg es (g e0 l) (by omega) (fun e he => hf e (List.mem_cons_of_mem _ he)) (by omega) h e he
theorem z5s {M N : Nat} : ∀ (s : Shp) (ts : List T) (l : Int), l ≤ (N : Int) → Fits M s ts → 0 ≤ l → 0 ≤ szG s ts l → Fits N s ts
 | .int, _, _, _, q, _, _ => q
 | .bool, _, _, _, q, _, _ => q
 | .nop, _, _, _, q, _, _ => q
 | .str, _, l, hl, ⟨x, a, b⟩, h0, h => by
   subst a
   by_cases hn : l - (x.length : Int) < 0
   ·have e : szG .str [.str x] l = -1 := if_pos hn
    omega
   ·exact ⟨x, rfl, by omega⟩
 | .sl k s, _, l, hl, ⟨es, a, b, c⟩, h0, h => by
   subst a
   by_cases hn : l - (es.length : Int) < 0
   ·have e : szG (.sl k s) [.sl k es] l = -1 := if_pos hn
    omega
   ·have e : szG (.sl k s) [.sl k es] l = szL (szG s) es (l - es.length) := if_neg hn
    rw [e] at h
    exact ⟨es, rfl, by omega, ze5 (fun e l h => z1R s e l h) (fun e l hl q h0 h => z5s s e l hl q h0 h) es _ (by omega) c (by omega) h⟩
 | .two a b, _, l, hl, ⟨x, y, e, p, q⟩, h0, h => by
   subst e
   have hw := p.len
   simp only [szG] at h
   rw [List.take_left' hw, List.drop_left' hw] at h
   have := z1R a x l h0
   split at h
   ·omega
   ·exact ⟨x, y, rfl, z5s a x l hl p h0 (by omega), z5s b y _ (by omega) q (by omega) h⟩
theorem z9C {g : List T → Int → Int} (hg : ∀ e l, 0 ≤ l → g e l = l) : ∀ (es : List (List T)) (l : Int), 0 ≤ l → szL g es l = l
 | [], l, _ => rfl
 | e :: es, l, h => by
   have h1 := hg e l h
   show (if g e l < 0 then -1 else szL g es (g e l)) = l
   rw [if_neg (by omega), h1]
   exact z9C hg es l h
theorem z1K {a b : Shp} {x y : List T} {l r : Int} (hw : x.length = a.wd) (h : szG a x l = r) (hr : r < 0) : szG (.two a b) (x ++ y) l = -1 := by
 simp only [szG]
 rw [List.take_left' hw, h, if_pos hr]
theorem z0l {a b : Shp} {x y : List T} {l r : Int} (hw : x.length = a.wd) (h : szG a x l = r) (hr : ¬ r < 0) : szG (.two a b) (x ++ y) l = szG b y r := by
 simp only [szG]
 rw [List.take_left' hw, List.drop_left' hw, h, if_neg hr]
theorem z9D {s : Bs} {l : Int} (h : l - (s.length : Int) < 0) : szG .str [.str s] l = -1 := if_pos h
theorem z5S {s : Bs} {l : Int} (h : ¬ l - (s.length : Int) < 0) : szG .str [.str s] l = l - (s.length : Int) := if_neg h
theorem z9E {g : List T → Int → Int} {es : List (List T)} {i : Nat} {e : List T} {l : Int} (h : es[i]? = some e) : szL g (es.drop i) l = if g e l < 0 then -1 else szL g (es.drop (i + 1)) (g e l) := by
 obtain ⟨hi, rfl⟩ := List.getElem?_eq_some_iff.1 h
 rw [List.drop_eq_getElem_cons hi]; rfl
theorem zjp (e : List T) (l : Int) (h : Fits maxLen z0D e) (hl : 0 ≤ l ∧ l ≤ 1048576) : CT Tryz.prog 127 [] [.agg e, .int .i64 l] (.int .i64 (szG z0D e l)) [] := by
 obtain ⟨s0, s1, n2, rfl, qs0, qs1, qn2, -⟩ := z1W h
 clear h
 obtain ⟨R, hR⟩ : ∃ R, R = szG z0D [.str s0, .str s1, .int .i64 n2] l := ⟨_, rfl⟩
 rw [← hR]
 have u0 : 0 ≤ l ∧ l ≤ 1048576 := by omega
 have m0 : (s0.length : Int) ≤ 9223372036854775807 := by have := qs0; unfold maxLen at this; omega
 by_cases h0 : l - (s0.length : Int) < 0
 ·have hE : R = -1 := hR.trans (z1K (x := [.str s0]) (y := [.str s1, .int .i64 n2]) rfl (z9D h0) (by decide))
  rw [hE]
  clear hR hE
  refine z01 z03 1 rfl Tryz.func127 rfl rfl rfl ?_
  repeat ((try conv => whnf); first | (refine stpQ ?_))
  (refine z00 (by rfl) ?_ ?_ (by rfl)) <;> (repeat' (first | (exact eqA) | (refine shE ?_) | (refine And.intro ?_ ?_)))
 have u1 : 0 ≤ l - (s0.length : Int) ∧ l - (s0.length : Int) ≤ 1048576 := by omega
 have m1 : (s1.length : Int) ≤ 9223372036854775807 := by have := qs1; unfold maxLen at this; omega
 by_cases h1 : l - (s0.length : Int) - (s1.length : Int) < 0
 ·have hE : R = -1 := hR.trans ((z0l (x := [.str s0]) (y := [.str s1, .int .i64 n2]) rfl (z5S h0) h0).trans (z1K (x := [.str s1]) (y := [.int .i64 n2]) rfl (z9D h1) (by decide)))
  rw [hE]
  clear hR hE
  refine z01 z03 1 rfl Tryz.func127 rfl rfl rfl ?_
  repeat ((try conv => whnf); first | (refine stpQ ?_))
  (refine z00 (by rfl) ?_ ?_ (by rfl)) <;> (repeat' (first | (exact eqA) | (refine shE ?_) | (refine And.intro ?_ ?_)))
 have k2 : ¬ l - (s0.length : Int) - (s1.length : Int) < 0 := by omega
 have hE : R = l - (s0.length : Int) - (s1.length : Int) := hR.trans ((z0l (x := [.str s0]) (y := [.str s1, .int .i64 n2]) rfl (z5S h0) h0).trans ((z0l (x := [.str s1]) (y := [.int .i64 n2]) rfl (z5S h1) h1).trans ((z0l (r := l - (s0.length : Int) - (s1.length : Int)) (x := [.int .i64 n2]) (y := []) rfl rfl k2).trans (rfl))))
 rw [hE]
 clear hR hE
 refine z01 z03 1 rfl Tryz.func127 rfl rfl rfl ?_
 repeat ((try conv => whnf); first | (refine stpQ ?_))
 (refine z00 (by rfl) ?_ ?_ (by rfl)) <;> (repeat' (first | (exact eqA) | (refine shE ?_) | (refine And.intro ?_ ?_)))
theorem zhW (z : List (List T)) (l : Int) (h : z.length ≤ maxLen ∧ ∀ e ∈ z, Fits maxLen z0D e) (hl : 0 ≤ l ∧ l ≤ 1048576) : CT Tryz.prog 54 [] [.sl 3 z, .int .i64 l] (.int .i64 (szG (.sl 3 z0D) [.sl 3 z] l)) [] := by
 obtain ⟨hn, hz⟩ := h
 have hn2 : (z.length : Int) ≤ 9223372036854775807 := by unfold maxLen at hn; omega
 by_cases h0 : l - (z.length : Int) < 0
 ·have e : szG (.sl 3 z0D) [.sl 3 z] l = -1 := by simp [szG, lenT, h0]
  rw [e]
  refine z01 z03 1 rfl Tryz.func54 rfl rfl rfl ?_
  repeat ((try conv => whnf); first | (refine stpQ ?_))
  (refine z00 (by rfl) ?_ ?_ (by rfl)) <;> (repeat' (first | (exact eqA) | (refine shE ?_) | (refine And.intro ?_ ?_)))
 have e : szG (.sl 3 z0D) [.sl 3 z] l = szL (szG z0D) z (l - z.length) := by simp [szG, lenT, elsT, h0]
 rw [e]
 clear e
 generalize hR : szL (szG z0D) z (l - z.length) = R
 refine z01 z03 1 rfl Tryz.func54 rfl rfl rfl ?_
 repeat ((try conv => whnf); first | (refine stpQ ?_))
 refine z0H (Nat × Int) (fun x => ⟨[(0, .sl 3 z), (1, .int .i64 x.2), (5, .int .i64 (x.1 : Int))], [], 1⟩) (fun x => (x.1 ≤ z.length ∧ 0 ≤ x.2 ∧ x.2 ≤ 1048576) ∧ szL (szG z0D) (z.drop x.1) x.2 = R) (fun x => z.length - x.1) (0, l - z.length) ⟨⟨Nat.zero_le _, by show (0 : Int) ≤ l - z.length; omega, by show l - z.length ≤ (1048576 : Int); omega⟩, hR⟩ ?_ ?_
 ·(refine z02 (by rfl) ?_ ?_) <;> (repeat' (first | (exact eqA) | (refine shE ?_) | (refine And.intro ?_ ?_))) <;> first | rfl | decide
 ·intro x hx
  obtain ⟨i, c⟩ := x
  have hi : i ≤ z.length := hx.1.1
  have hc0 : 0 ≤ c := hx.1.2.1
  have hc1 : c ≤ 1048576 := hx.1.2.2
  have hr : szL (szG z0D) (z.drop i) c = R := hx.2
  clear hx hR
  by_cases hlt : i < z.length
  ·have hi2 : (i : Int) < (z.length : Int) := by omega
   have hmem : z[i] ∈ z := List.getElem_mem hlt
   have gi : z[i]? = some z[i] := List.getElem?_eq_getElem hlt
   have hf := hz _ hmem
   rw [z9E gi] at hr
   generalize z[i] = e at hf gi hr
   obtain ⟨s0, s1, n2, rfl, -⟩ := z1W hf
   have cE := zjp [.str s0, .str s1, .int .i64 n2] c hf ⟨hc0, hc1⟩
   have hb := z1R z0D [.str s0, .str s1, .int .i64 n2] c hc0
   generalize szG z0D [.str s0, .str s1, .int .i64 n2] c = r at cE hb hr
   by_cases hneg : r < 0
   ·rw [if_pos hneg] at hr
    rw [← hr]
    repeat ((try conv => whnf); first | (refine i_at gi ?_) | (refine ccA ([]) (cE) ?_) | (refine stpQ ?_))
    (refine z00 (by rfl) ?_ ?_ (by rfl)) <;> (repeat' (first | (exact eqA) | (refine shE ?_) | (refine And.intro ?_ ?_)))
   ·rw [if_neg hneg] at hr
    repeat ((try conv => whnf); first | (refine i_at gi ?_) | (refine ccA ([]) (cE) ?_) | (refine stpQ ?_))
    refine ⟨(i + 1, r), ⟨⟨hlt, by show 0 ≤ r; omega, by show r ≤ 1048576; omega⟩, hr⟩, by show z.length - (i + 1) < z.length - i; omega, ?_⟩
    (refine z02 (by rfl) ?_ ?_) <;> (repeat' (first | (exact eqA) | (refine shE ?_) | (refine And.intro ?_ ?_)))
  ·obtain rfl : i = z.length := by omega
   rw [List.drop_length] at hr
   have hr2 : c = R := hr
   rw [← hr2]
   repeat ((try conv => whnf); first | (refine stpQ ?_))
   (refine z00 (by rfl) ?_ ?_ (by rfl)) <;> (repeat' (first | (exact eqA) | (refine shE ?_) | (refine And.intro ?_ ?_)))
theorem ze6 (e : List T) (l : Int) (h : Fits maxLen z1s e) (hl : 0 ≤ l ∧ l ≤ 1048576) : CT Tryz.prog 13 [] [.agg e, .int .i64 l] (.int .i64 (szG z1s e l)) [] := by
 obtain ⟨z0, rfl, qz0, -⟩ := z2J h
 clear h
 obtain ⟨R, hR⟩ : ∃ R, R = szG z1s [.sl 3 z0] l := ⟨_, rfl⟩
 rw [← hR]
 have u0 : 0 ≤ l ∧ l ≤ 1048576 := by omega
 have c0 := zhW z0 (l) qz0 u0
 have d0 := z1R (.sl 3 z0D) [.sl 3 z0] (l) u0.1
 generalize g0 : szG (.sl 3 z0D) [.sl 3 z0] (l) = r0 at c0 d0
 by_cases h0 : r0 < 0
 ·have hE : R = -1 := hR.trans (z1K (x := [.sl 3 z0]) (y := []) rfl g0 h0)
  rw [hE]
  clear hR hE
  refine z01 z03 1 rfl Tryz.func13 rfl rfl rfl ?_
  repeat ((try conv => whnf); first | (refine ccA ([]) (c0) ?_) | (refine stpQ ?_))
  (refine z00 (by rfl) ?_ ?_ (by rfl)) <;> (repeat' (first | (exact eqA) | (refine shE ?_) | (refine And.intro ?_ ?_)))
 have hE : R = r0 := hR.trans ((z0l (x := [.sl 3 z0]) (y := []) rfl g0 h0).trans (rfl))
 rw [hE]
 clear hR hE
 refine z01 z03 1 rfl Tryz.func13 rfl rfl rfl ?_
 repeat ((try conv => whnf); first | (refine ccA ([]) (c0) ?_) | (refine stpQ ?_))
 (refine z00 (by rfl) ?_ ?_ (by rfl)) <;> (repeat' (first | (exact eqA) | (refine shE ?_) | (refine And.intro ?_ ?_)))
theorem zjq (e : List T) (l : Int) (h : Fits maxLen z2K e) (hl : 0 ≤ l ∧ l ≤ 1048576) : CT Tryz.prog 195 [] [.agg e, .int .i64 l] (.int .i64 (szG z2K e l)) [] := by
 obtain ⟨n0, n1, s2, s3, rfl, qn0, qn1, qs2, qs3, -⟩ := z56 h
 clear h
 obtain ⟨R, hR⟩ : ∃ R, R = szG z2K [.int .i64 n0, .int .i64 n1, .str s2, .str s3] l := ⟨_, rfl⟩
 rw [← hR]
 have k0 : ¬ l < 0 := by omega
 have k1 : ¬ l < 0 := by omega
 have u0 : 0 ≤ l ∧ l ≤ 1048576 := by omega
 have m0 : (s2.length : Int) ≤ 9223372036854775807 := by have := qs2; unfold maxLen at this; omega
 by_cases h0 : l - (s2.length : Int) < 0
 ·have hE : R = -1 := hR.trans ((z0l (r := l) (x := [.int .i64 n0]) (y := [.int .i64 n1, .str s2, .str s3]) rfl rfl k0).trans ((z0l (r := l) (x := [.int .i64 n1]) (y := [.str s2, .str s3]) rfl rfl k1).trans (z1K (x := [.str s2]) (y := [.str s3]) rfl (z9D h0) (by decide))))
  rw [hE]
  clear hR hE
  refine z01 z03 1 rfl Tryz.func195 rfl rfl rfl ?_
  repeat ((try conv => whnf); first | (refine stpQ ?_))
  (refine z00 (by rfl) ?_ ?_ (by rfl)) <;> (repeat' (first | (exact eqA) | (refine shE ?_) | (refine And.intro ?_ ?_)))
 have u1 : 0 ≤ l - (s2.length : Int) ∧ l - (s2.length : Int) ≤ 1048576 := by omega
 have m1 : (s3.length : Int) ≤ 9223372036854775807 := by have := qs3; unfold maxLen at this; omega
 by_cases h1 : l - (s2.length : Int) - (s3.length : Int) < 0
 ·have hE : R = -1 := hR.trans ((z0l (r := l) (x := [.int .i64 n0]) (y := [.int .i64 n1, .str s2, .str s3]) rfl rfl k0).trans ((z0l (r := l) (x := [.int .i64 n1]) (y := [.str s2, .str s3]) rfl rfl k1).trans ((z0l (x := [.str s2]) (y := [.str s3]) rfl (z5S h0) h0).trans (z1K (x := [.str s3]) (y := []) rfl (z9D h1) (by decide)))))
  rw [hE]
  clear hR hE
  refine z01 z03 1 rfl Tryz.func195 rfl rfl rfl ?_
  repeat ((try conv => whnf); first | (refine stpQ ?_))
  (refine z00 (by rfl) ?_ ?_ (by rfl)) <;> (repeat' (first | (exact eqA) | (refine shE ?_) | (refine And.intro ?_ ?_)))
 have hE : R = l - (s2.length : Int) - (s3.length : Int) := hR.trans ((z0l (r := l) (x := [.int .i64 n0]) (y := [.int .i64 n1, .str s2, .str s3]) rfl rfl k0).trans ((z0l (r := l) (x := [.int .i64 n1]) (y := [.str s2, .str s3]) rfl rfl k1).trans ((z0l (x := [.str s2]) (y := [.str s3]) rfl (z5S h0) h0).trans ((z0l (x := [.str s3]) (y := []) rfl (z5S h1) h1).trans (rfl)))))
 rw [hE]
 clear hR hE
 refine z01 z03 1 rfl Tryz.func195 rfl rfl rfl ?_
 repeat ((try conv => whnf); first | (refine stpQ ?_))
 (refine z00 (by rfl) ?_ ?_ (by rfl)) <;> (repeat' (first | (exact eqA) | (refine shE ?_) | (refine And.intro ?_ ?_)))
theorem z2R (z : List (List T)) (l : Int) (h : z.length ≤ maxLen ∧ ∀ e ∈ z, Fits maxLen .str e) (hl : 0 ≤ l ∧ l ≤ 1048576) : CT Tryz.prog 74 [] [.sl 1 z, .int .i64 l] (.int .i64 (szG (.sl 1 .str) [.sl 1 z] l)) [] := by
 obtain ⟨hn, hz⟩ := h
 have hn2 : (z.length : Int) ≤ 9223372036854775807 := by unfold maxLen at hn; omega
 by_cases h0 : l - (z.length : Int) < 0
 ·have e : szG (.sl 1 .str) [.sl 1 z] l = -1 := by simp [szG, lenT, h0]
  rw [e]
  refine z01 z03 1 rfl Tryz.func74 rfl rfl rfl ?_
  repeat ((try conv => whnf); first | (refine stpQ ?_))
  (refine z00 (by rfl) ?_ ?_ (by rfl)) <;> (repeat' (first | (exact eqA) | (refine shE ?_) | (refine And.intro ?_ ?_)))
 have e : szG (.sl 1 .str) [.sl 1 z] l = szL (szG .str) z (l - z.length) := by simp [szG, lenT, elsT, h0]
 rw [e]
 clear e
 generalize hR : szL (szG .str) z (l - z.length) = R
 refine z01 z03 1 rfl Tryz.func74 rfl rfl rfl ?_
 repeat ((try conv => whnf); first | (refine stpQ ?_))
 refine z0H (Nat × Int) (fun x => ⟨[(0, .sl 1 z), (1, .int .i64 x.2), (5, .int .i64 (x.1 : Int))], [], 1⟩) (fun x => (x.1 ≤ z.length ∧ 0 ≤ x.2 ∧ x.2 ≤ 1048576) ∧ szL (szG .str) (z.drop x.1) x.2 = R) (fun x => z.length - x.1) (0, l - z.length) ⟨⟨Nat.zero_le _, by show (0 : Int) ≤ l - z.length; omega, by show l - z.length ≤ (1048576 : Int); omega⟩, hR⟩ ?_ ?_
 ·(refine z02 (by rfl) ?_ ?_) <;> (repeat' (first | (exact eqA) | (refine shE ?_) | (refine And.intro ?_ ?_))) <;> first | rfl | decide
 ·intro x hx
  obtain ⟨i, c⟩ := x
  have hi : i ≤ z.length := hx.1.1
  have hc0 : 0 ≤ c := hx.1.2.1
  have hc1 : c ≤ 1048576 := hx.1.2.2
  have hr : szL (szG .str) (z.drop i) c = R := hx.2
  clear hx hR
  by_cases hlt : i < z.length
  ·have hi2 : (i : Int) < (z.length : Int) := by omega
   have hmem : z[i] ∈ z := List.getElem_mem hlt
   have gi : z[i]? = some z[i] := List.getElem?_eq_getElem hlt
   have hf := hz _ hmem
   rw [z9E gi] at hr
   generalize z[i] = e at hf gi hr
   obtain ⟨s, rfl, hf1⟩ := hf
   have hf2 : (s.length : Int) ≤ 9223372036854775807 := by unfold maxLen at hf1; omega
   have hb : ¬ (c - (s.length : Int) < 0) → 0 ≤ c - (s.length : Int) ∧ c - (s.length : Int) ≤ c := fun h => by omega
   have hE : szG .str [.str s] c = if c - (s.length : Int) < 0 then -1 else c - (s.length : Int) := rfl
   rw [hE] at hr
   by_cases hneg : c - (s.length : Int) < 0
   ·rw [if_pos hneg, if_pos (by decide)] at hr
    rw [← hr]
    repeat ((try conv => whnf); first | (refine i_at gi ?_) | (refine stpQ ?_))
    (refine z00 (by rfl) ?_ ?_ (by rfl)) <;> (repeat' (first | (exact eqA) | (refine shE ?_) | (refine And.intro ?_ ?_)))
   ·rw [if_neg hneg, if_neg hneg] at hr
    repeat ((try conv => whnf); first | (refine i_at gi ?_) | (refine stpQ ?_))
    refine ⟨(i + 1, c - s.length), ⟨⟨hlt, by show (0 : Int) ≤ c - s.length; omega, by show c - s.length ≤ (1048576 : Int); omega⟩, hr⟩, by show z.length - (i + 1) < z.length - i; omega, ?_⟩
    (refine z02 (by rfl) ?_ ?_) <;> (repeat' (first | (exact eqA) | (refine shE ?_) | (refine And.intro ?_ ?_)))
  ·obtain rfl : i = z.length := by omega
   rw [List.drop_length] at hr
   have hr2 : c = R := hr
   rw [← hr2]
   repeat ((try conv => whnf); first | (refine stpQ ?_))
   (refine z00 (by rfl) ?_ ?_ (by rfl)) <;> (repeat' (first | (exact eqA) | (refine shE ?_) | (refine And.intro ?_ ?_)))
theorem zlm (e : List T) (l : Int) (h : Fits maxLen z3T e) (hl : 0 ≤ l ∧ l ≤ 1048576) : CT Tryz.prog 196 [] [.agg e, .int .i64 l] (.int .i64 (szG z3T e l)) [] := by
 obtain ⟨n0, z1, z2, z3, rfl, qn0, qz1, qz2, qz3, -⟩ := z6r h
 clear h
 obtain ⟨R, hR⟩ : ∃ R, R = szG z3T [.int .i64 n0, .sl 1 z1, .sl 1 z2, .sl 1 z3] l := ⟨_, rfl⟩
 rw [← hR]
 have k0 : ¬ l < 0 := by omega
 have u0 : 0 ≤ l ∧ l ≤ 1048576 := by omega
 have c0 := z2R z1 (l) qz1 u0
 have d0 := z1R (.sl 1 .str) [.sl 1 z1] (l) u0.1
 generalize g0 : szG (.sl 1 .str) [.sl 1 z1] (l) = r0 at c0 d0
 by_cases h0 : r0 < 0
 ·have hE : R = -1 := hR.trans ((z0l (r := l) (x := [.int .i64 n0]) (y := [.sl 1 z1, .sl 1 z2, .sl 1 z3]) rfl rfl k0).trans (z1K (x := [.sl 1 z1]) (y := [.sl 1 z2, .sl 1 z3]) rfl g0 h0))
  rw [hE]
  clear hR hE
  refine z01 z03 1 rfl Tryz.func196 rfl rfl rfl ?_
  repeat ((try conv => whnf); first | (refine ccA ([]) (c0) ?_) | (refine stpQ ?_))
  (refine z00 (by rfl) ?_ ?_ (by rfl)) <;> (repeat' (first | (exact eqA) | (refine shE ?_) | (refine And.intro ?_ ?_)))
 have u1 : 0 ≤ r0 ∧ r0 ≤ 1048576 := by omega
 have c1 := z2R z2 (r0) qz2 u1
 have d1 := z1R (.sl 1 .str) [.sl 1 z2] (r0) u1.1
 generalize g1 : szG (.sl 1 .str) [.sl 1 z2] (r0) = r1 at c1 d1
 by_cases h1 : r1 < 0
 ·have hE : R = -1 := hR.trans ((z0l (r := l) (x := [.int .i64 n0]) (y := [.sl 1 z1, .sl 1 z2, .sl 1 z3]) rfl rfl k0).trans ((z0l (x := [.sl 1 z1]) (y := [.sl 1 z2, .sl 1 z3]) rfl g0 h0).trans (z1K (x := [.sl 1 z2]) (y := [.sl 1 z3]) rfl g1 h1)))
  rw [hE]
  clear hR hE
  refine z01 z03 1 rfl Tryz.func196 rfl rfl rfl ?_
  repeat ((try conv => whnf); first | (refine ccA ([]) (c0) ?_) | (refine ccA ([]) (c1) ?_) | (refine stpQ ?_))
  (refine z00 (by rfl) ?_ ?_ (by rfl)) <;> (repeat' (first | (exact eqA) | (refine shE ?_) | (refine And.intro ?_ ?_)))
 have u2 : 0 ≤ r1 ∧ r1 ≤ 1048576 := by omega
 have c2 := z2R z3 (r1) qz3 u2
 have d2 := z1R (.sl 1 .str) [.sl 1 z3] (r1) u2.1
 generalize g2 : szG (.sl 1 .str) [.sl 1 z3] (r1) = r2 at c2 d2
 by_cases h2 : r2 < 0
 ·have hE : R = -1 := hR.trans ((z0l (r := l) (x := [.int .i64 n0]) (y := [.sl 1 z1, .sl 1 z2, .sl 1 z3]) rfl rfl k0).trans ((z0l (x := [.sl 1 z1]) (y := [.sl 1 z2, .sl 1 z3]) rfl g0 h0).trans ((z0l (x := [.sl 1 z2]) (y := [.sl 1 z3]) rfl g1 h1).trans (z1K (x := [.sl 1 z3]) (y := []) rfl g2 h2))))
  rw [hE]
  clear hR hE
  refine z01 z03 1 rfl Tryz.func196 rfl rfl rfl ?_
  repeat ((try conv => whnf); first | (refine ccA ([]) (c0) ?_) | (refine ccA ([]) (c1) ?_) | (refine ccA ([]) (c2) ?_) | (refine stpQ ?_))
  (refine z00 (by rfl) ?_ ?_ (by rfl)) <;> (repeat' (first | (exact eqA) | (refine shE ?_) | (refine And.intro ?_ ?_)))
 have hE : R = r2 := hR.trans ((z0l (r := l) (x := [.int .i64 n0]) (y := [.sl 1 z1, .sl 1 z2, .sl 1 z3]) rfl rfl k0).trans ((z0l (x := [.sl 1 z1]) (y := [.sl 1 z2, .sl 1 z3]) rfl g0 h0).trans ((z0l (x := [.sl 1 z2]) (y := [.sl 1 z3]) rfl g1 h1).trans ((z0l (x := [.sl 1 z3]) (y := []) rfl g2 h2).trans (rfl)))))
 rw [hE]
 clear hR hE
 refine z01 z03 1 rfl Tryz.func196 rfl rfl rfl ?_
 repeat ((try conv => whnf); first | (refine ccA ([]) (c0) ?_) | (refine ccA ([]) (c1) ?_) | (refine ccA ([]) (c2) ?_) | (refine stpQ ?_))
 (refine z00 (by rfl) ?_ ?_ (by rfl)) <;> (repeat' (first | (exact eqA) | (refine shE ?_) | (refine And.intro ?_ ?_)))
theorem zjr (e : List T) (l : Int) (h : Fits maxLen z0K e) (hl : 0 ≤ l ∧ l ≤ 1048576) : CT Tryz.prog 143 [] [.agg e, .int .i64 l] (.int .i64 (szG z0K e l)) [] := by
 obtain ⟨n0, n1, s2, s3, n4, z5, z6, z7, rfl, qn0, qn1, qs2, qs3, qn4, qz5, qz6, qz7, -⟩ := z2k h
 clear h
 obtain ⟨R, hR⟩ : ∃ R, R = szG z0K [.int .i64 n0, .int .i64 n1, .str s2, .str s3, .int .i64 n4, .sl 1 z5, .sl 1 z6, .sl 1 z7] l := ⟨_, rfl⟩
 rw [← hR]
 have u0 : 0 ≤ l ∧ l ≤ 1048576 := by omega
 have c0 := zjq [.int .i64 n0, .int .i64 n1, .str s2, .str s3] (l) (z79 qn0 qn1 qs2 qs3) u0
 have d0 := z1R z2K [.int .i64 n0, .int .i64 n1, .str s2, .str s3] (l) u0.1
 generalize g0 : szG z2K [.int .i64 n0, .int .i64 n1, .str s2, .str s3] (l) = r0 at c0 d0
 by_cases h0 : r0 < 0
 ·have hE : R = -1 := hR.trans (z1K (x := [.int .i64 n0, .int .i64 n1, .str s2, .str s3]) (y := [.int .i64 n4, .sl 1 z5, .sl 1 z6, .sl 1 z7]) rfl g0 h0)
  rw [hE]
  clear hR hE
  refine z01 z03 1 rfl Tryz.func143 rfl rfl rfl ?_
  repeat ((try conv => whnf); first | (refine ccA ([]) (c0) ?_) | (refine stpQ ?_))
  (refine z00 (by rfl) ?_ ?_ (by rfl)) <;> (repeat' (first | (exact eqA) | (refine shE ?_) | (refine And.intro ?_ ?_)))
 have u1 : 0 ≤ r0 ∧ r0 ≤ 1048576 := by omega
 have c1 := zlm [.int .i64 n4, .sl 1 z5, .sl 1 z6, .sl 1 z7] (r0) (zdw qn4 qz5 qz6 qz7) u1
 have d1 := z1R z3T [.int .i64 n4, .sl 1 z5, .sl 1 z6, .sl 1 z7] (r0) u1.1
 generalize g1 : szG z3T [.int .i64 n4, .sl 1 z5, .sl 1 z6, .sl 1 z7] (r0) = r1 at c1 d1
 by_cases h1 : r1 < 0
 ·have hE : R = -1 := hR.trans ((z0l (x := [.int .i64 n0, .int .i64 n1, .str s2, .str s3]) (y := [.int .i64 n4, .sl 1 z5, .sl 1 z6, .sl 1 z7]) rfl g0 h0).trans (z1K (x := [.int .i64 n4, .sl 1 z5, .sl 1 z6, .sl 1 z7]) (y := []) rfl g1 h1))
  rw [hE]
  clear hR hE
  refine z01 z03 1 rfl Tryz.func143 rfl rfl rfl ?_
  repeat ((try conv => whnf); first | (refine ccA ([]) (c0) ?_) | (refine ccA ([]) (c1) ?_) | (refine stpQ ?_))
  (refine z00 (by rfl) ?_ ?_ (by rfl)) <;> (repeat' (first | (exact eqA) | (refine shE ?_) | (refine And.intro ?_ ?_)))
 have hE : R = r1 := hR.trans ((z0l (x := [.int .i64 n0, .int .i64 n1, .str s2, .str s3]) (y := [.int .i64 n4, .sl 1 z5, .sl 1 z6, .sl 1 z7]) rfl g0 h0).trans ((z0l (x := [.int .i64 n4, .sl 1 z5, .sl 1 z6, .sl 1 z7]) (y := []) rfl g1 h1).trans (rfl)))
 rw [hE]
 clear hR hE
 refine z01 z03 1 rfl Tryz.func143 rfl rfl rfl ?_
 repeat ((try conv => whnf); first | (refine ccA ([]) (c0) ?_) | (refine ccA ([]) (c1) ?_) | (refine stpQ ?_))
 (refine z00 (by rfl) ?_ ?_ (by rfl)) <;> (repeat' (first | (exact eqA) | (refine shE ?_) | (refine And.intro ?_ ?_)))
theorem zjs (z : List (List T)) (l : Int) (h : z.length ≤ maxLen ∧ ∀ e ∈ z, Fits maxLen .int e) (hl : 0 ≤ l ∧ l ≤ 1048576) : CT Tryz.prog 76 [] [.sl 1 z, .int .i64 l] (.int .i64 (szG (.sl 1 .int) [.sl 1 z] l)) [] := by
 obtain ⟨hn, hz⟩ := h
 have hn2 : (z.length : Int) ≤ 9223372036854775807 := by unfold maxLen at hn; omega
 by_cases h0 : l - (z.length : Int) < 0
 ·have e : szG (.sl 1 .int) [.sl 1 z] l = -1 := by simp [szG, lenT, h0]
  rw [e]
  refine z01 z03 1 rfl Tryz.func76 rfl rfl rfl ?_
  repeat ((try conv => whnf); first | (refine stpQ ?_))
  (refine z00 (by rfl) ?_ ?_ (by rfl)) <;> (repeat' (first | (exact eqA) | (refine shE ?_) | (refine And.intro ?_ ?_)))
 have e : szG (.sl 1 .int) [.sl 1 z] l = szL (szG .int) z (l - z.length) := by simp [szG, lenT, elsT, h0]
 rw [e]
 clear e
 have e := z9C (g := szG .int) (fun e l h => rfl) z (l - z.length) (by omega)
 rw [e]
 refine z01 z03 1 rfl Tryz.func76 rfl rfl rfl ?_
 repeat ((try conv => whnf); first | (refine stpQ ?_))
 (refine z00 (by rfl) ?_ ?_ (by rfl)) <;> (repeat' (first | (exact eqA) | (refine shE ?_) | (refine And.intro ?_ ?_)))
theorem zhX (z : List (List T)) (l : Int) (h : z.length ≤ maxLen ∧ ∀ e ∈ z, Fits maxLen z0K e) (hl : 0 ≤ l ∧ l ≤ 1048576) : CT Tryz.prog 75 [] [.sl 8 z, .int .i64 l] (.int .i64 (szG (.sl 8 z0K) [.sl 8 z] l)) [] := by
 obtain ⟨hn, hz⟩ := h
 have hn2 : (z.length : Int) ≤ 9223372036854775807 := by unfold maxLen at hn; omega
 by_cases h0 : l - (z.length : Int) < 0
 ·have e : szG (.sl 8 z0K) [.sl 8 z] l = -1 := by simp [szG, lenT, h0]
  rw [e]
  refine z01 z03 1 rfl Tryz.func75 rfl rfl rfl ?_
  repeat ((try conv => whnf); first | (refine stpQ ?_))
  (refine z00 (by rfl) ?_ ?_ (by rfl)) <;> (repeat' (first | (exact eqA) | (refine shE ?_) | (refine And.intro ?_ ?_)))
 have e : szG (.sl 8 z0K) [.sl 8 z] l = szL (szG z0K) z (l - z.length) := by simp [szG, lenT, elsT, h0]
 rw [e]
 clear e
 generalize hR : szL (szG z0K) z (l - z.length) = R
 refine z01 z03 1 rfl Tryz.func75 rfl rfl rfl ?_
 repeat ((try conv => whnf); first | (refine stpQ ?_))
 refine z0H (Nat × Int) (fun x => ⟨[(0, .sl 8 z), (1, .int .i64 x.2), (5, .int .i64 (x.1 : Int))], [], 1⟩) (fun x => (x.1 ≤ z.length ∧ 0 ≤ x.2 ∧ x.2 ≤ 1048576) ∧ szL (szG z0K) (z.drop x.1) x.2 = R) (fun x => z.length - x.1) (0, l - z.length) ⟨⟨Nat.zero_le _, by show (0 : Int) ≤ l - z.length; omega, by show l - z.length ≤ (1048576 : Int); omega⟩, hR⟩ ?_ ?_
 ·(refine z02 (by rfl) ?_ ?_) <;> (repeat' (first | (exact eqA) | (refine shE ?_) | (refine And.intro ?_ ?_))) <;> first | rfl | decide
 ·intro x hx
  obtain ⟨i, c⟩ := x
  have hi : i ≤ z.length := hx.1.1
  have hc0 : 0 ≤ c := hx.1.2.1
  have hc1 : c ≤ 1048576 := hx.1.2.2
  have hr : szL (szG z0K) (z.drop i) c = R := hx.2
  clear hx hR
  by_cases hlt : i < z.length
  ·have hi2 : (i : Int) < (z.length : Int) := by omega
   have hmem : z[i] ∈ z := List.getElem_mem hlt
   have gi : z[i]? = some z[i] := List.getElem?_eq_getElem hlt
   have hf := hz _ hmem
   rw [z9E gi] at hr
   generalize z[i] = e at hf gi hr
   obtain ⟨n0, n1, s2, s3, n4, z5, z6, z7, rfl, -⟩ := z2k hf
   have cE := zjr [.int .i64 n0, .int .i64 n1, .str s2, .str s3, .int .i64 n4, .sl 1 z5, .sl 1 z6, .sl 1 z7] c hf ⟨hc0, hc1⟩
   have hb := z1R z0K [.int .i64 n0, .int .i64 n1, .str s2, .str s3, .int .i64 n4, .sl 1 z5, .sl 1 z6, .sl 1 z7] c hc0
   generalize szG z0K [.int .i64 n0, .int .i64 n1, .str s2, .str s3, .int .i64 n4, .sl 1 z5, .sl 1 z6, .sl 1 z7] c = r at cE hb hr
   by_cases hneg : r < 0
   ·rw [if_pos hneg] at hr
    rw [← hr]
    repeat ((try conv => whnf); first | (refine i_at gi ?_) | (refine ccA ([]) (cE) ?_) | (refine stpQ ?_))
    (refine z00 (by rfl) ?_ ?_ (by rfl)) <;> (repeat' (first | (exact eqA) | (refine shE ?_) | (refine And.intro ?_ ?_)))
   ·rw [if_neg hneg] at hr
    repeat ((try conv => whnf); first | (refine i_at gi ?_) | (refine ccA ([]) (cE) ?_) | (refine stpQ ?_))
    refine ⟨(i + 1, r), ⟨⟨hlt, by show 0 ≤ r; omega, by show r ≤ 1048576; omega⟩, hr⟩, by show z.length - (i + 1) < z.length - i; omega, ?_⟩
    (refine z02 (by rfl) ?_ ?_) <;> (repeat' (first | (exact eqA) | (refine shE ?_) | (refine And.intro ?_ ?_)))
  ·obtain rfl : i = z.length := by omega
   rw [List.drop_length] at hr
   have hr2 : c = R := hr
   rw [← hr2]
   repeat ((try conv => whnf); first | (refine stpQ ?_))
   (refine z00 (by rfl) ?_ ?_ (by rfl)) <;> (repeat' (first | (exact eqA) | (refine shE ?_) | (refine And.intro ?_ ?_)))
theorem zhY (z : List (List T)) (l : Int) (h : z.length ≤ maxLen ∧ ∀ e ∈ z, Fits maxLen .bool e) (hl : 0 ≤ l ∧ l ≤ 1048576) : CT Tryz.prog 77 [] [.sl 1 z, .int .i64 l] (.int .i64 (szG (.sl 1 .bool) [.sl 1 z] l)) [] := by
 obtain ⟨hn, hz⟩ := h
 have hn2 : (z.length : Int) ≤ 9223372036854775807 := by unfold maxLen at hn; omega
 by_cases h0 : l - (z.length : Int) < 0
 ·have e : szG (.sl 1 .bool) [.sl 1 z] l = -1 := by simp [szG, lenT, h0]
  rw [e]
  refine z01 z03 1 rfl Tryz.func77 rfl rfl rfl ?_
  repeat ((try conv => whnf); first | (refine stpQ ?_))
  (refine z00 (by rfl) ?_ ?_ (by rfl)) <;> (repeat' (first | (exact eqA) | (refine shE ?_) | (refine And.intro ?_ ?_)))
 have e : szG (.sl 1 .bool) [.sl 1 z] l = szL (szG .bool) z (l - z.length) := by simp [szG, lenT, elsT, h0]
 rw [e]
 clear e
 have e := z9C (g := szG .bool) (fun e l h => rfl) z (l - z.length) (by omega)
 rw [e]
 refine z01 z03 1 rfl Tryz.func77 rfl rfl rfl ?_
 repeat ((try conv => whnf); first | (refine stpQ ?_))
 (refine z00 (by rfl) ?_ ?_ (by rfl)) <;> (repeat' (first | (exact eqA) | (refine shE ?_) | (refine And.intro ?_ ?_)))
theorem zbl (e : List T) (l : Int) (h : Fits maxLen z0Q e) (hl : 0 ≤ l ∧ l ≤ 1048576) : CT Tryz.prog 22 [] [.agg e, .int .i64 l] (.int .i64 (szG z0Q e l)) [] := by
 obtain ⟨n0, n1, b2, z3, z4, z5, z6, n7, b8, z9, z10, rfl, qn0, qn1, qb2, qz3, qz4, qz5, qz6, qn7, qb8, qz9, qz10, -⟩ := z28 h
 clear h
 obtain ⟨R, hR⟩ : ∃ R, R = szG z0Q [.int .i64 n0, .int .i64 n1, .bool b2, .sl 3 z3, .sl 1 z4, .sl 8 z5, .sl 1 z6, .int .i64 n7, .bool b8, .sl 1 z9, .sl 1 z10] l := ⟨_, rfl⟩
 rw [← hR]
 have k0 : ¬ l < 0 := by omega
 have k1 : ¬ l < 0 := by omega
 have k2 : ¬ l < 0 := by omega
 have u0 : 0 ≤ l ∧ l ≤ 1048576 := by omega
 have c0 := ze6 [.sl 3 z3] (l) (z5H qz3) u0
 have d0 := z1R z1s [.sl 3 z3] (l) u0.1
 generalize g0 : szG z1s [.sl 3 z3] (l) = r0 at c0 d0
 by_cases h0 : r0 < 0
 ·have hE : R = -1 := hR.trans ((z0l (r := l) (x := [.int .i64 n0]) (y := [.int .i64 n1, .bool b2, .sl 3 z3, .sl 1 z4, .sl 8 z5, .sl 1 z6, .int .i64 n7, .bool b8, .sl 1 z9, .sl 1 z10]) rfl rfl k0).trans ((z0l (r := l) (x := [.int .i64 n1]) (y := [.bool b2, .sl 3 z3, .sl 1 z4, .sl 8 z5, .sl 1 z6, .int .i64 n7, .bool b8, .sl 1 z9, .sl 1 z10]) rfl rfl k1).trans ((z0l (r := l) (x := [.bool b2]) (y := [.sl 3 z3, .sl 1 z4, .sl 8 z5, .sl 1 z6, .int .i64 n7, .bool b8, .sl 1 z9, .sl 1 z10]) rfl rfl k2).trans (z1K (x := [.sl 3 z3]) (y := [.sl 1 z4, .sl 8 z5, .sl 1 z6, .int .i64 n7, .bool b8, .sl 1 z9, .sl 1 z10]) rfl g0 h0))))
  rw [hE]
  clear hR hE
  refine z01 z03 1 rfl Tryz.func22 rfl rfl rfl ?_
  repeat ((try conv => whnf); first | (refine ccA ([]) (c0) ?_) | (refine stpQ ?_))
  (refine z00 (by rfl) ?_ ?_ (by rfl)) <;> (repeat' (first | (exact eqA) | (refine shE ?_) | (refine And.intro ?_ ?_)))
 have u1 : 0 ≤ r0 ∧ r0 ≤ 1048576 := by omega
 have c1 := z2R z4 (r0) qz4 u1
 have d1 := z1R (.sl 1 .str) [.sl 1 z4] (r0) u1.1
 generalize g1 : szG (.sl 1 .str) [.sl 1 z4] (r0) = r1 at c1 d1
 by_cases h1 : r1 < 0
 ·have hE : R = -1 := hR.trans ((z0l (r := l) (x := [.int .i64 n0]) (y := [.int .i64 n1, .bool b2, .sl 3 z3, .sl 1 z4, .sl 8 z5, .sl 1 z6, .int .i64 n7, .bool b8, .sl 1 z9, .sl 1 z10]) rfl rfl k0).trans ((z0l (r := l) (x := [.int .i64 n1]) (y := [.bool b2, .sl 3 z3, .sl 1 z4, .sl 8 z5, .sl 1 z6, .int .i64 n7, .bool b8, .sl 1 z9, .sl 1 z10]) rfl rfl k1).trans ((z0l (r := l) (x := [.bool b2]) (y := [.sl 3 z3, .sl 1 z4, .sl 8 z5, .sl 1 z6, .int .i64 n7, .bool b8, .sl 1 z9, .sl 1 z10]) rfl rfl k2).trans ((z0l (x := [.sl 3 z3]) (y := [.sl 1 z4, .sl 8 z5, .sl 1 z6, .int .i64 n7, .bool b8, .sl 1 z9, .sl 1 z10]) rfl g0 h0).trans (z1K (x := [.sl 1 z4]) (y := [.sl 8 z5, .sl 1 z6, .int .i64 n7, .bool b8, .sl 1 z9, .sl 1 z10]) rfl g1 h1)))))
  rw [hE]
  clear hR hE
  refine z01 z03 1 rfl Tryz.func22 rfl rfl rfl ?_
  repeat ((try conv => whnf); first | (refine ccA ([]) (c0) ?_) | (refine ccA ([]) (c1) ?_) | (refine stpQ ?_))
  (refine z00 (by rfl) ?_ ?_ (by rfl)) <;> (repeat' (first | (exact eqA) | (refine shE ?_) | (refine And.intro ?_ ?_)))
 have u2 : 0 ≤ r1 ∧ r1 ≤ 1048576 := by omega
 have c2 := zhX z5 (r1) qz5 u2
 have d2 := z1R (.sl 8 z0K) [.sl 8 z5] (r1) u2.1
 generalize g2 : szG (.sl 8 z0K) [.sl 8 z5] (r1) = r2 at c2 d2
 by_cases h2 : r2 < 0
 ·have hE : R = -1 := hR.trans ((z0l (r := l) (x := [.int .i64 n0]) (y := [.int .i64 n1, .bool b2, .sl 3 z3, .sl 1 z4, .sl 8 z5, .sl 1 z6, .int .i64 n7, .bool b8, .sl 1 z9, .sl 1 z10]) rfl rfl k0).trans ((z0l (r := l) (x := [.int .i64 n1]) (y := [.bool b2, .sl 3 z3, .sl 1 z4, .sl 8 z5, .sl 1 z6, .int .i64 n7, .bool b8, .sl 1 z9, .sl 1 z10]) rfl rfl k1).trans ((z0l (r := l) (x := [.bool b2]) (y := [.sl 3 z3, .sl 1 z4, .sl 8 z5, .sl 1 z6, .int .i64 n7, .bool b8, .sl 1 z9, .sl 1 z10]) rfl rfl k2).trans ((z0l (x := [.sl 3 z3]) (y := [.sl 1 z4, .sl 8 z5, .sl 1 z6, .int .i64 n7, .bool b8, .sl 1 z9, .sl 1 z10]) rfl g0 h0).trans ((z0l (x := [.sl 1 z4]) (y := [.sl 8 z5, .sl 1 z6, .int .i64 n7, .bool b8, .sl 1 z9, .sl 1 z10]) rfl g1 h1).trans (z1K (x := [.sl 8 z5]) (y := [.sl 1 z6, .int .i64 n7, .bool b8, .sl 1 z9, .sl 1 z10]) rfl g2 h2))))))
  rw [hE]
  clear hR hE
  refine z01 z03 1 rfl Tryz.func22 rfl rfl rfl ?_
  repeat ((try conv => whnf); first | (refine ccA ([]) (c0) ?_) | (refine ccA ([]) (c1) ?_) | (refine ccA ([]) (c2) ?_) | (refine stpQ ?_))
  (refine z00 (by rfl) ?_ ?_ (by rfl)) <;> (repeat' (first | (exact eqA) | (refine shE ?_) | (refine And.intro ?_ ?_)))
 have u3 : 0 ≤ r2 ∧ r2 ≤ 1048576 := by omega
 have c3 := zjs z6 (r2) qz6 u3
 have d3 := z1R (.sl 1 .int) [.sl 1 z6] (r2) u3.1
 generalize g3 : szG (.sl 1 .int) [.sl 1 z6] (r2) = r3 at c3 d3
 by_cases h3 : r3 < 0
 ·have hE : R = -1 := hR.trans ((z0l (r := l) (x := [.int .i64 n0]) (y := [.int .i64 n1, .bool b2, .sl 3 z3, .sl 1 z4, .sl 8 z5, .sl 1 z6, .int .i64 n7, .bool b8, .sl 1 z9, .sl 1 z10]) rfl rfl k0).trans ((z0l (r := l) (x := [.int .i64 n1]) (y := [.bool b2, .sl 3 z3, .sl 1 z4, .sl 8 z5, .sl 1 z6, .int .i64 n7, .bool b8, .sl 1 z9, .sl 1 z10]) rfl rfl k1).trans ((z0l (r := l) (x := [.bool b2]) (y := [.sl 3 z3, .sl 1 z4, .sl 8 z5, .sl 1 z6, .int .i64 n7, .bool b8, .sl 1 z9, .sl 1 z10]) rfl rfl k2).trans ((z0l (x := [.sl 3 z3]) (y := [.sl 1 z4, .sl 8 z5, .sl 1 z6, .int .i64 n7, .bool b8, .sl 1 z9, .sl 1 z10]) rfl g0 h0).trans ((z0l (x := [.sl 1 z4]) (y := [.sl 8 z5, .sl 1 z6, .int .i64 n7, .bool b8, .sl 1 z9, .sl 1 z10]) rfl g1 h1).trans ((z0l (x := [.sl 8 z5]) (y := [.sl 1 z6, .int .i64 n7, .bool b8, .sl 1 z9, .sl 1 z10]) rfl g2 h2).trans (z1K (x := [.sl 1 z6]) (y := [.int .i64 n7, .bool b8, .sl 1 z9, .sl 1 z10]) rfl g3 h3)))))))
  rw [hE]
  clear hR hE
  refine z01 z03 1 rfl Tryz.func22 rfl rfl rfl ?_
  repeat ((try conv => whnf); first | (refine ccA ([]) (c0) ?_) | (refine ccA ([]) (c1) ?_) | (refine ccA ([]) (c2) ?_) | (refine ccA ([]) (c3) ?_) | (refine stpQ ?_))
  (refine z00 (by rfl) ?_ ?_ (by rfl)) <;> (repeat' (first | (exact eqA) | (refine shE ?_) | (refine And.intro ?_ ?_)))
 have k7 : ¬ r3 < 0 := by omega
 have k8 : ¬ r3 < 0 := by omega
 have u4 : 0 ≤ r3 ∧ r3 ≤ 1048576 := by omega
 have c4 := z2R z9 (r3) qz9 u4
 have d4 := z1R (.sl 1 .str) [.sl 1 z9] (r3) u4.1
 generalize g4 : szG (.sl 1 .str) [.sl 1 z9] (r3) = r4 at c4 d4
 by_cases h4 : r4 < 0
 ·have hE : R = -1 := hR.trans ((z0l (r := l) (x := [.int .i64 n0]) (y := [.int .i64 n1, .bool b2, .sl 3 z3, .sl 1 z4, .sl 8 z5, .sl 1 z6, .int .i64 n7, .bool b8, .sl 1 z9, .sl 1 z10]) rfl rfl k0).trans ((z0l (r := l) (x := [.int .i64 n1]) (y := [.bool b2, .sl 3 z3, .sl 1 z4, .sl 8 z5, .sl 1 z6, .int .i64 n7, .bool b8, .sl 1 z9, .sl 1 z10]) rfl rfl k1).trans ((z0l (r := l) (x := [.bool b2]) (y := [.sl 3 z3, .sl 1 z4, .sl 8 z5, .sl 1 z6, .int .i64 n7, .bool b8, .sl 1 z9, .sl 1 z10]) rfl rfl k2).trans ((z0l (x := [.sl 3 z3]) (y := [.sl 1 z4, .sl 8 z5, .sl 1 z6, .int .i64 n7, .bool b8, .sl 1 z9, .sl 1 z10]) rfl g0 h0).trans ((z0l (x := [.sl 1 z4]) (y := [.sl 8 z5, .sl 1 z6, .int .i64 n7, .bool b8, .sl 1 z9, .sl 1 z10]) rfl g1 h1).trans ((z0l (x := [.sl 8 z5]) (y := [.sl 1 z6, .int .i64 n7, .bool b8, .sl 1 z9, .sl 1 z10]) rfl g2 h2).trans ((z0l (x := [.sl 1 z6]) (y := [.int .i64 n7, .bool b8, .sl 1 z9, .sl 1 z10]) rfl g3 h3).trans ((z0l (r := r3) (x := [.int .i64 n7]) (y := [.bool b8, .sl 1 z9, .sl 1 z10]) rfl rfl k7).trans ((z0l (r := r3) (x := [.bool b8]) (y := [.sl 1 z9, .sl 1 z10]) rfl rfl k8).trans (z1K (x := [.sl 1 z9]) (y := [.sl 1 z10]) rfl g4 h4))))))))))
  rw [hE]
  clear hR hE
  refine z01 z03 1 rfl Tryz.func22 rfl rfl rfl ?_
  repeat ((try conv => whnf); first | (refine ccA ([]) (c0) ?_) | (refine ccA ([]) (c1) ?_) | (refine ccA ([]) (c2) ?_) | (refine ccA ([]) (c3) ?_) | (refine ccA ([]) (c4) ?_) | (refine stpQ ?_))
  (refine z00 (by rfl) ?_ ?_ (by rfl)) <;> (repeat' (first | (exact eqA) | (refine shE ?_) | (refine And.intro ?_ ?_)))
 have u5 : 0 ≤ r4 ∧ r4 ≤ 1048576 := by omega
 have c5 := zhY z10 (r4) qz10 u5
 have d5 := z1R (.sl 1 .bool) [.sl 1 z10] (r4) u5.1
 generalize g5 : szG (.sl 1 .bool) [.sl 1 z10] (r4) = r5 at c5 d5
 by_cases h5 : r5 < 0
 ·have hE : R = -1 := hR.trans ((z0l (r := l) (x := [.int .i64 n0]) (y := [.int .i64 n1, .bool b2, .sl 3 z3, .sl 1 z4, .sl 8 z5, .sl 1 z6, .int .i64 n7, .bool b8, .sl 1 z9, .sl 1 z10]) rfl rfl k0).trans ((z0l (r := l) (x := [.int .i64 n1]) (y := [.bool b2, .sl 3 z3, .sl 1 z4, .sl 8 z5, .sl 1 z6, .int .i64 n7, .bool b8, .sl 1 z9, .sl 1 z10]) rfl rfl k1).trans ((z0l (r := l) (x := [.bool b2]) (y := [.sl 3 z3, .sl 1 z4, .sl 8 z5, .sl 1 z6, .int .i64 n7, .bool b8, .sl 1 z9, .sl 1 z10]) rfl rfl k2).trans ((z0l (x := [.sl 3 z3]) (y := [.sl 1 z4, .sl 8 z5, .sl 1 z6, .int .i64 n7, .bool b8, .sl 1 z9, .sl 1 z10]) rfl g0 h0).trans ((z0l (x := [.sl 1 z4]) (y := [.sl 8 z5, .sl 1 z6, .int .i64 n7, .bool b8, .sl 1 z9, .sl 1 z10]) rfl g1 h1).trans ((z0l (x := [.sl 8 z5]) (y := [.sl 1 z6, .int .i64 n7, .bool b8, .sl 1 z9, .sl 1 z10]) rfl g2 h2).trans ((z0l (x := [.sl 1 z6]) (y := [.int .i64 n7, .bool b8, .sl 1 z9, .sl 1 z10]) rfl g3 h3).trans ((z0l (r := r3) (x := [.int .i64 n7]) (y := [.bool b8, .sl 1 z9, .sl 1 z10]) rfl rfl k7).trans ((z0l (r := r3) (x := [.bool b8]) (y := [.sl 1 z9, .sl 1 z10]) rfl rfl k8).trans ((z0l (x := [.sl 1 z9]) (y := [.sl 1 z10]) rfl g4 h4).trans (z1K (x := [.sl 1 z10]) (y := []) rfl g5 h5)))))))))))
  rw [hE]
  clear hR hE
  refine z01 z03 1 rfl Tryz.func22 rfl rfl rfl ?_
  repeat ((try conv => whnf); first | (refine ccA ([]) (c0) ?_) | (refine ccA ([]) (c1) ?_) | (refine ccA ([]) (c2) ?_) | (refine ccA ([]) (c3) ?_) | (refine ccA ([]) (c4) ?_) | (refine ccA ([]) (c5) ?_) | (refine stpQ ?_))
  (refine z00 (by rfl) ?_ ?_ (by rfl)) <;> (repeat' (first | (exact eqA) | (refine shE ?_) | (refine And.intro ?_ ?_)))
 have hE : R = r5 := hR.trans ((z0l (r := l) (x := [.int .i64 n0]) (y := [.int .i64 n1, .bool b2, .sl 3 z3, .sl 1 z4, .sl 8 z5, .sl 1 z6, .int .i64 n7, .bool b8, .sl 1 z9, .sl 1 z10]) rfl rfl k0).trans ((z0l (r := l) (x := [.int .i64 n1]) (y := [.bool b2, .sl 3 z3, .sl 1 z4, .sl 8 z5, .sl 1 z6, .int .i64 n7, .bool b8, .sl 1 z9, .sl 1 z10]) rfl rfl k1).trans ((z0l (r := l) (x := [.bool b2]) (y := [.sl 3 z3, .sl 1 z4, .sl 8 z5, .sl 1 z6, .int .i64 n7, .bool b8, .sl 1 z9, .sl 1 z10]) rfl rfl k2).trans ((z0l (x := [.sl 3 z3]) (y := [.sl 1 z4, .sl 8 z5, .sl 1 z6, .int .i64 n7, .bool b8, .sl 1 z9, .sl 1 z10]) rfl g0 h0).trans ((z0l (x := [.sl 1 z4]) (y := [.sl 8 z5, .sl 1 z6, .int .i64 n7, .bool b8, .sl 1 z9, .sl 1 z10]) rfl g1 h1).trans ((z0l (x := [.sl 8 z5]) (y := [.sl 1 z6, .int .i64 n7, .bool b8, .sl 1 z9, .sl 1 z10]) rfl g2 h2).trans ((z0l (x := [.sl 1 z6]) (y := [.int .i64 n7, .bool b8, .sl 1 z9, .sl 1 z10]) rfl g3 h3).trans ((z0l (r := r3) (x := [.int .i64 n7]) (y := [.bool b8, .sl 1 z9, .sl 1 z10]) rfl rfl k7).trans ((z0l (r := r3) (x := [.bool b8]) (y := [.sl 1 z9, .sl 1 z10]) rfl rfl k8).trans ((z0l (x := [.sl 1 z9]) (y := [.sl 1 z10]) rfl g4 h4).trans ((z0l (x := [.sl 1 z10]) (y := []) rfl g5 h5).trans (rfl))))))))))))
 rw [hE]
 clear hR hE
 refine z01 z03 1 rfl Tryz.func22 rfl rfl rfl ?_
 repeat ((try conv => whnf); first | (refine ccA ([]) (c0) ?_) | (refine ccA ([]) (c1) ?_) | (refine ccA ([]) (c2) ?_) | (refine ccA ([]) (c3) ?_) | (refine ccA ([]) (c4) ?_) | (refine ccA ([]) (c5) ?_) | (refine stpQ ?_))
 (refine z00 (by rfl) ?_ ?_ (by rfl)) <;> (repeat' (first | (exact eqA) | (refine shE ?_) | (refine And.intro ?_ ?_)))
end Go.Proofs.YtnhcfmmdaihneaaGreatDoor
