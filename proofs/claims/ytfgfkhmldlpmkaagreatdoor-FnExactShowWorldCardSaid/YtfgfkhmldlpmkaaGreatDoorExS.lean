/- How large an argument is: what the functions sz.. of the exact laws answer. -/
import Derived.Test.YtfgfkhmldlpmkaaGreatDoorExT
namespace Go.Proofs.YtfgfkhmldlpmkaaGreatDoor
open Go.RowKit Pl
set_option linter.unusedVariables false
set_option linter.unusedSimpArgs false

attribute [local irreducible] CondB CallP LoopW AnsP LeP


def szL (g : List T → Int → Int) : List (List T) → Int → Int
  | [], l => l
  | e :: es, l => if g e l < 0 then -1 else szL g es (g e l)
def lenT : List T → Nat
  | [.str s] => s.length
  | [.sl _ es] => es.length
  | _ => 0
def elsT : List T → List (List T)
  | [.sl _ es] => es
  | _ => []
def szG : Shp → List T → Int → Int
  | .int, _, l => l
  | .bool, _, l => l
  | .nop, _, l => l
  | .str, ts, l => if l - lenT ts < 0 then -1 else l - lenT ts
  | .sl _ s, ts, l => if l - lenT ts < 0 then -1 else szL (szG s) (elsT ts) (l - lenT ts)
  | .two a b, ts, l => if szG a (ts.take a.wd) l < 0 then -1 else szG b (ts.drop a.wd) (szG a (ts.take a.wd) l)
theorem szL_le {g : List T → Int → Int} (hg : ∀ e l, 0 ≤ l → -1 ≤ g e l ∧ g e l ≤ l) : ∀ (es : List (List T)) (l : Int), 0 ≤ l → -1 ≤ szL g es l ∧ szL g es l ≤ l
  | [], l, h => by simp only [szL]; omega
  | e :: es, l, h => by
    simp only [szL]
    have := hg e l h
    split
    · omega
    · have := szL_le hg es (g e l) (by omega); omega
theorem szG_le : ∀ (s : Shp) (ts : List T) (l : Int), 0 ≤ l → -1 ≤ szG s ts l ∧ szG s ts l ≤ l
  | .int, _, l, h => by simp only [szG]; omega
  | .bool, _, l, h => by simp only [szG]; omega
  | .nop, _, l, h => by simp only [szG]; omega
  | .str, ts, l, h => by simp only [szG]; split <;> omega
  | .sl k s, ts, l, h => by
    simp only [szG]
    split
    · omega
    · have := szL_le (fun e l h => szG_le s e l h) (elsT ts) (l - lenT ts) (by omega); omega
  | .two a b, ts, l, h => by
    simp only [szG]
    have := szG_le a (ts.take a.wd) l h
    split
    · omega
    · have := szG_le b (ts.drop a.wd) (szG a (ts.take a.wd) l) (by omega); omega
theorem fits_le {N M : Nat} (h : N ≤ M) : ∀ {s : Shp} {ts : List T}, Fits N s ts → Fits M s ts
  | .int, _, q => q
  | .bool, _, q => q
  | .nop, _, q => q
  | .str, _, ⟨l, a, b⟩ => ⟨l, a, by omega⟩
  | .sl k s, _, ⟨es, a, b, c⟩ => ⟨es, a, by omega, fun e he => fits_le h (c e he)⟩
  | .two a b, _, ⟨x, y, e, p, q⟩ => ⟨x, y, e, fits_le h p, fits_le h q⟩
theorem szL_fits {g : List T → Int → Int} {s : Shp} {M N : Nat} (hb : ∀ e l, 0 ≤ l → -1 ≤ g e l ∧ g e l ≤ l) (hg : ∀ e l, l ≤ (N : Int) → Fits M s e → 0 ≤ l → 0 ≤ g e l → Fits N s e) : ∀ (es : List (List T)) (l : Int), l ≤ (N : Int) → (∀ e ∈ es, Fits M s e) → 0 ≤ l → 0 ≤ szL g es l → ∀ e ∈ es, Fits N s e
  | [], l, _, _, _, _ => fun e he => by cases he
  | e0 :: es, l, hl, hf, h0, h => by
    simp only [szL] at h
    split at h
    · omega
    · rename_i hn
      have := hb e0 l h0
      intro e he
      rcases List.mem_cons.1 he with rfl | he
      · exact hg _ _ hl (hf _ (by simp)) h0 (by omega)
      · exact szL_fits hb hg es (g e0 l) (by omega) (fun e he => hf e (List.mem_cons_of_mem _ he)) (by omega) h e he
/-- What is measured without running out is not large. -/
theorem szG_fits {M N : Nat} : ∀ (s : Shp) (ts : List T) (l : Int), l ≤ (N : Int) → Fits M s ts → 0 ≤ l → 0 ≤ szG s ts l → Fits N s ts
  | .int, _, _, _, q, _, _ => q
  | .bool, _, _, _, q, _, _ => q
  | .nop, _, _, _, q, _, _ => q
  | .str, _, l, hl, ⟨x, a, b⟩, h0, h => by
    subst a
    by_cases hn : l - (x.length : Int) < 0
    · have e : szG .str [.str x] l = -1 := if_pos hn
      omega
    · exact ⟨x, rfl, by omega⟩
  | .sl k s, _, l, hl, ⟨es, a, b, c⟩, h0, h => by
    subst a
    by_cases hn : l - (es.length : Int) < 0
    · have e : szG (.sl k s) [.sl k es] l = -1 := if_pos hn
      omega
    · have e : szG (.sl k s) [.sl k es] l = szL (szG s) es (l - es.length) := if_neg hn
      rw [e] at h
      exact ⟨es, rfl, by omega, szL_fits (fun e l h => szG_le s e l h) (fun e l hl q h0 h => szG_fits s e l hl q h0 h) es _ (by omega) c (by omega) h⟩
  | .two a b, _, l, hl, ⟨x, y, e, p, q⟩, h0, h => by
    subst e
    have hw := p.len
    simp only [szG] at h
    rw [List.take_left' hw, List.drop_left' hw] at h
    have := szG_le a x l h0
    split at h
    · omega
    · exact ⟨x, y, rfl, szG_fits a x l hl p h0 (by omega), szG_fits b y _ (by omega) q (by omega) h⟩
theorem szL_same {g : List T → Int → Int} (hg : ∀ e l, 0 ≤ l → g e l = l) : ∀ (es : List (List T)) (l : Int), 0 ≤ l → szL g es l = l
  | [], l, _ => rfl
  | e :: es, l, h => by
    have h1 := hg e l h
    show (if g e l < 0 then -1 else szL g es (g e l)) = l
    rw [if_neg (by omega), h1]
    exact szL_same hg es l h
theorem two_neg {a b : Shp} {x y : List T} {l r : Int} (hw : x.length = a.wd) (h : szG a x l = r) (hr : r < 0) : szG (.two a b) (x ++ y) l = -1 := by
  simp only [szG]
  rw [List.take_left' hw, h, if_pos hr]
theorem two_pos {a b : Shp} {x y : List T} {l r : Int} (hw : x.length = a.wd) (h : szG a x l = r) (hr : ¬ r < 0) : szG (.two a b) (x ++ y) l = szG b y r := by
  simp only [szG]
  rw [List.take_left' hw, List.drop_left' hw, h, if_neg hr]
theorem str_neg {s : Bs} {l : Int} (h : l - (s.length : Int) < 0) : szG .str [.str s] l = -1 := if_pos h
theorem str_pos {s : Bs} {l : Int} (h : ¬ l - (s.length : Int) < 0) : szG .str [.str s] l = l - (s.length : Int) := if_neg h
theorem szL_drop {g : List T → Int → Int} {es : List (List T)} {i : Nat} {e : List T} {l : Int} (h : es[i]? = some e) : szL g (es.drop i) l = if g e l < 0 then -1 else szL g (es.drop (i + 1)) (g e l) := by
  obtain ⟨hi, rfl⟩ := List.getElem?_eq_some_iff.1 h
  rw [List.drop_eq_getElem_cons hi]; rfl
set_option maxRecDepth 100000 in
set_option maxHeartbeats 2000000 in
theorem c_szLeaf (e : List T) (l : Int) (h : Fits maxLen sh_Leaf e) (hl : 0 ≤ l ∧ l ≤ 1048576) : CT Tryz.prog 133 [] [.agg e, .int .i64 l] (.int .i64 (szG sh_Leaf e l)) [] := by
  obtain ⟨s0, s1, rfl, qs0, qs1, -⟩ := fits_Leaf h
  clear h
  obtain ⟨R, hR⟩ : ∃ R, R = szG sh_Leaf [.str s0, .str s1] l := ⟨_, rfl⟩
  rw [← hR]
  have u0 : 0 ≤ l ∧ l ≤ 1048576 := by omega
  have m0 : (s0.length : Int) ≤ 9223372036854775807 := by have := qs0; unfold maxLen at this; omega
  by_cases h0 : l - (s0.length : Int) < 0
  · have hE : R = -1 := hR.trans (two_neg (x := [.str s0]) (y := [.str s1]) rfl (str_neg h0) (by decide))
    rw [hE]
    clear hR hE
    refine ct_intro ttE_ok 1 rfl Tryz.func133 rfl rfl rfl ?_
    repeat ((try conv => whnf); first | (refine stpQ ?_))
    (refine ans_auto (by rfl) ?_ ?_ (by rfl)) <;> (repeat' (first | (exact eqA) | (refine And.intro ?_ ?_) | ((fail_if_success (with_reducible (show _ = _))); (show _ = _))))
  have u1 : 0 ≤ l - (s0.length : Int) ∧ l - (s0.length : Int) ≤ 1048576 := by omega
  have m1 : (s1.length : Int) ≤ 9223372036854775807 := by have := qs1; unfold maxLen at this; omega
  by_cases h1 : l - (s0.length : Int) - (s1.length : Int) < 0
  · have hE : R = -1 := hR.trans ((two_pos (x := [.str s0]) (y := [.str s1]) rfl (str_pos h0) h0).trans (two_neg (x := [.str s1]) (y := []) rfl (str_neg h1) (by decide)))
    rw [hE]
    clear hR hE
    refine ct_intro ttE_ok 1 rfl Tryz.func133 rfl rfl rfl ?_
    repeat ((try conv => whnf); first | (refine stpQ ?_))
    (refine ans_auto (by rfl) ?_ ?_ (by rfl)) <;> (repeat' (first | (exact eqA) | (refine And.intro ?_ ?_) | ((fail_if_success (with_reducible (show _ = _))); (show _ = _))))
  have hE : R = l - (s0.length : Int) - (s1.length : Int) := hR.trans ((two_pos (x := [.str s0]) (y := [.str s1]) rfl (str_pos h0) h0).trans ((two_pos (x := [.str s1]) (y := []) rfl (str_pos h1) h1).trans (rfl)))
  rw [hE]
  clear hR hE
  refine ct_intro ttE_ok 1 rfl Tryz.func133 rfl rfl rfl ?_
  repeat ((try conv => whnf); first | (refine stpQ ?_))
  (refine ans_auto (by rfl) ?_ ?_ (by rfl)) <;> (repeat' (first | (exact eqA) | (refine And.intro ?_ ?_) | ((fail_if_success (with_reducible (show _ = _))); (show _ = _))))
set_option maxRecDepth 100000 in
set_option maxHeartbeats 2000000 in
theorem c_szChange (e : List T) (l : Int) (h : Fits maxLen sh_Change e) (hl : 0 ≤ l ∧ l ≤ 1048576) : CT Tryz.prog 113 [] [.agg e, .int .i64 l] (.int .i64 (szG sh_Change e l)) [] := by
  obtain ⟨n0, s1, s2, rfl, qn0, qs1, qs2, -⟩ := fits_Change h
  clear h
  obtain ⟨R, hR⟩ : ∃ R, R = szG sh_Change [.int .i64 n0, .str s1, .str s2] l := ⟨_, rfl⟩
  rw [← hR]
  have k0 : ¬ l < 0 := by omega
  have u0 : 0 ≤ l ∧ l ≤ 1048576 := by omega
  have m0 : (s1.length : Int) ≤ 9223372036854775807 := by have := qs1; unfold maxLen at this; omega
  by_cases h0 : l - (s1.length : Int) < 0
  · have hE : R = -1 := hR.trans ((two_pos (r := l) (x := [.int .i64 n0]) (y := [.str s1, .str s2]) rfl rfl k0).trans (two_neg (x := [.str s1]) (y := [.str s2]) rfl (str_neg h0) (by decide)))
    rw [hE]
    clear hR hE
    refine ct_intro ttE_ok 1 rfl Tryz.func113 rfl rfl rfl ?_
    repeat ((try conv => whnf); first | (refine stpQ ?_))
    (refine ans_auto (by rfl) ?_ ?_ (by rfl)) <;> (repeat' (first | (exact eqA) | (refine And.intro ?_ ?_) | ((fail_if_success (with_reducible (show _ = _))); (show _ = _))))
  have u1 : 0 ≤ l - (s1.length : Int) ∧ l - (s1.length : Int) ≤ 1048576 := by omega
  have m1 : (s2.length : Int) ≤ 9223372036854775807 := by have := qs2; unfold maxLen at this; omega
  by_cases h1 : l - (s1.length : Int) - (s2.length : Int) < 0
  · have hE : R = -1 := hR.trans ((two_pos (r := l) (x := [.int .i64 n0]) (y := [.str s1, .str s2]) rfl rfl k0).trans ((two_pos (x := [.str s1]) (y := [.str s2]) rfl (str_pos h0) h0).trans (two_neg (x := [.str s2]) (y := []) rfl (str_neg h1) (by decide))))
    rw [hE]
    clear hR hE
    refine ct_intro ttE_ok 1 rfl Tryz.func113 rfl rfl rfl ?_
    repeat ((try conv => whnf); first | (refine stpQ ?_))
    (refine ans_auto (by rfl) ?_ ?_ (by rfl)) <;> (repeat' (first | (exact eqA) | (refine And.intro ?_ ?_) | ((fail_if_success (with_reducible (show _ = _))); (show _ = _))))
  have hE : R = l - (s1.length : Int) - (s2.length : Int) := hR.trans ((two_pos (r := l) (x := [.int .i64 n0]) (y := [.str s1, .str s2]) rfl rfl k0).trans ((two_pos (x := [.str s1]) (y := [.str s2]) rfl (str_pos h0) h0).trans ((two_pos (x := [.str s2]) (y := []) rfl (str_pos h1) h1).trans (rfl))))
  rw [hE]
  clear hR hE
  refine ct_intro ttE_ok 1 rfl Tryz.func113 rfl rfl rfl ?_
  repeat ((try conv => whnf); first | (refine stpQ ?_))
  (refine ans_auto (by rfl) ?_ ?_ (by rfl)) <;> (repeat' (first | (exact eqA) | (refine And.intro ?_ ?_) | ((fail_if_success (with_reducible (show _ = _))); (show _ = _))))
set_option maxRecDepth 100000 in
set_option maxHeartbeats 2000000 in
theorem c_szFile (e : List T) (l : Int) (h : Fits maxLen sh_File e) (hl : 0 ≤ l ∧ l ≤ 1048576) : CT Tryz.prog 97 [] [.agg e, .int .i64 l] (.int .i64 (szG sh_File e l)) [] := by
  obtain ⟨s0, s1, n2, rfl, qs0, qs1, qn2, -⟩ := fits_File h
  clear h
  obtain ⟨R, hR⟩ : ∃ R, R = szG sh_File [.str s0, .str s1, .int .i64 n2] l := ⟨_, rfl⟩
  rw [← hR]
  have u0 : 0 ≤ l ∧ l ≤ 1048576 := by omega
  have m0 : (s0.length : Int) ≤ 9223372036854775807 := by have := qs0; unfold maxLen at this; omega
  by_cases h0 : l - (s0.length : Int) < 0
  · have hE : R = -1 := hR.trans (two_neg (x := [.str s0]) (y := [.str s1, .int .i64 n2]) rfl (str_neg h0) (by decide))
    rw [hE]
    clear hR hE
    refine ct_intro ttE_ok 1 rfl Tryz.func97 rfl rfl rfl ?_
    repeat ((try conv => whnf); first | (refine stpQ ?_))
    (refine ans_auto (by rfl) ?_ ?_ (by rfl)) <;> (repeat' (first | (exact eqA) | (refine And.intro ?_ ?_) | ((fail_if_success (with_reducible (show _ = _))); (show _ = _))))
  have u1 : 0 ≤ l - (s0.length : Int) ∧ l - (s0.length : Int) ≤ 1048576 := by omega
  have m1 : (s1.length : Int) ≤ 9223372036854775807 := by have := qs1; unfold maxLen at this; omega
  by_cases h1 : l - (s0.length : Int) - (s1.length : Int) < 0
  · have hE : R = -1 := hR.trans ((two_pos (x := [.str s0]) (y := [.str s1, .int .i64 n2]) rfl (str_pos h0) h0).trans (two_neg (x := [.str s1]) (y := [.int .i64 n2]) rfl (str_neg h1) (by decide)))
    rw [hE]
    clear hR hE
    refine ct_intro ttE_ok 1 rfl Tryz.func97 rfl rfl rfl ?_
    repeat ((try conv => whnf); first | (refine stpQ ?_))
    (refine ans_auto (by rfl) ?_ ?_ (by rfl)) <;> (repeat' (first | (exact eqA) | (refine And.intro ?_ ?_) | ((fail_if_success (with_reducible (show _ = _))); (show _ = _))))
  have k2 : ¬ l - (s0.length : Int) - (s1.length : Int) < 0 := by omega
  have hE : R = l - (s0.length : Int) - (s1.length : Int) := hR.trans ((two_pos (x := [.str s0]) (y := [.str s1, .int .i64 n2]) rfl (str_pos h0) h0).trans ((two_pos (x := [.str s1]) (y := [.int .i64 n2]) rfl (str_pos h1) h1).trans ((two_pos (r := l - (s0.length : Int) - (s1.length : Int)) (x := [.int .i64 n2]) (y := []) rfl rfl k2).trans (rfl))))
  rw [hE]
  clear hR hE
  refine ct_intro ttE_ok 1 rfl Tryz.func97 rfl rfl rfl ?_
  repeat ((try conv => whnf); first | (refine stpQ ?_))
  (refine ans_auto (by rfl) ?_ ?_ (by rfl)) <;> (repeat' (first | (exact eqA) | (refine And.intro ?_ ?_) | ((fail_if_success (with_reducible (show _ = _))); (show _ = _))))
set_option maxRecDepth 100000 in
set_option maxHeartbeats 1000000 in
theorem c_szFileS (z : List (List T)) (l : Int) (h : z.length ≤ maxLen ∧ ∀ e ∈ z, Fits maxLen sh_File e) (hl : 0 ≤ l ∧ l ≤ 1048576) : CT Tryz.prog 79 [] [.sl 3 z, .int .i64 l] (.int .i64 (szG (.sl 3 sh_File) [.sl 3 z] l)) [] := by
  obtain ⟨hn, hz⟩ := h
  have hn2 : (z.length : Int) ≤ 9223372036854775807 := by unfold maxLen at hn; omega
  by_cases h0 : l - (z.length : Int) < 0
  · have e : szG (.sl 3 sh_File) [.sl 3 z] l = -1 := by simp [szG, lenT, h0]
    rw [e]
    refine ct_intro ttE_ok 1 rfl Tryz.func79 rfl rfl rfl ?_
    repeat ((try conv => whnf); first | (refine stpQ ?_))
    (refine ans_auto (by rfl) ?_ ?_ (by rfl)) <;> (repeat' (first | (exact eqA) | (refine And.intro ?_ ?_) | ((fail_if_success (with_reducible (show _ = _))); (show _ = _))))
  have e : szG (.sl 3 sh_File) [.sl 3 z] l = szL (szG sh_File) z (l - z.length) := by simp [szG, lenT, elsT, h0]
  rw [e]
  clear e
  generalize hR : szL (szG sh_File) z (l - z.length) = R
  refine ct_intro ttE_ok 1 rfl Tryz.func79 rfl rfl rfl ?_
  repeat ((try conv => whnf); first | (refine stpQ ?_))
  refine loop_of (Nat × Int) (fun x => ⟨[(0, .sl 3 z), (1, .int .i64 x.2), (5, .int .i64 (x.1 : Int))], [], 1⟩) (fun x => (x.1 ≤ z.length ∧ 0 ≤ x.2 ∧ x.2 ≤ 1048576) ∧ szL (szG sh_File) (z.drop x.1) x.2 = R) (fun x => z.length - x.1) (0, l - z.length) ⟨⟨Nat.zero_le _, by show (0 : Int) ≤ l - z.length; omega, by show l - z.length ≤ (1048576 : Int); omega⟩, hR⟩ ?_ ?_
  · (refine le_auto (by rfl) ?_ ?_) <;> (repeat' (first | (exact eqA) | (refine And.intro ?_ ?_) | ((fail_if_success (with_reducible (show _ = _))); (show _ = _)))) <;> first | rfl | decide
  · intro x hx
    obtain ⟨i, c⟩ := x
    have hi : i ≤ z.length := hx.1.1
    have hc0 : 0 ≤ c := hx.1.2.1
    have hc1 : c ≤ 1048576 := hx.1.2.2
    have hr : szL (szG sh_File) (z.drop i) c = R := hx.2
    clear hx hR
    by_cases hlt : i < z.length
    · have hi2 : (i : Int) < (z.length : Int) := by omega
      have hmem : z[i] ∈ z := List.getElem_mem hlt
      have gi : z[i]? = some z[i] := List.getElem?_eq_getElem hlt
      have hf := hz _ hmem
      rw [szL_drop gi] at hr
      generalize z[i] = e at hf gi hr
      obtain ⟨s0, s1, n2, rfl, -⟩ := fits_File hf
      have cE := c_szFile [.str s0, .str s1, .int .i64 n2] c hf ⟨hc0, hc1⟩
      have hb := szG_le sh_File [.str s0, .str s1, .int .i64 n2] c hc0
      generalize szG sh_File [.str s0, .str s1, .int .i64 n2] c = r at cE hb hr
      by_cases hneg : r < 0
      · rw [if_pos hneg] at hr
        rw [← hr]
        repeat ((try conv => whnf); first | (refine i_at gi ?_) | (refine ccA ([]) (cE) ?_) | (refine stpQ ?_))
        (refine ans_auto (by rfl) ?_ ?_ (by rfl)) <;> (repeat' (first | (exact eqA) | (refine And.intro ?_ ?_) | ((fail_if_success (with_reducible (show _ = _))); (show _ = _))))
      · rw [if_neg hneg] at hr
        repeat ((try conv => whnf); first | (refine i_at gi ?_) | (refine ccA ([]) (cE) ?_) | (refine stpQ ?_))
        refine ⟨(i + 1, r), ⟨⟨hlt, by show 0 ≤ r; omega, by show r ≤ 1048576; omega⟩, hr⟩, by show z.length - (i + 1) < z.length - i; omega, ?_⟩
        (refine le_auto (by rfl) ?_ ?_) <;> (repeat' (first | (exact eqA) | (refine And.intro ?_ ?_) | ((fail_if_success (with_reducible (show _ = _))); (show _ = _))))
    · obtain rfl : i = z.length := by omega
      rw [List.drop_length] at hr
      have hr2 : c = R := hr
      rw [← hr2]
      repeat ((try conv => whnf); first | (refine stpQ ?_))
      (refine ans_auto (by rfl) ?_ ?_ (by rfl)) <;> (repeat' (first | (exact eqA) | (refine And.intro ?_ ?_) | ((fail_if_success (with_reducible (show _ = _))); (show _ = _))))
set_option maxRecDepth 100000 in
set_option maxHeartbeats 2000000 in
theorem c_szDisk (e : List T) (l : Int) (h : Fits maxLen sh_Disk e) (hl : 0 ≤ l ∧ l ≤ 1048576) : CT Tryz.prog 57 [] [.agg e, .int .i64 l] (.int .i64 (szG sh_Disk e l)) [] := by
  obtain ⟨z0, rfl, qz0, -⟩ := fits_Disk h
  clear h
  obtain ⟨R, hR⟩ : ∃ R, R = szG sh_Disk [.sl 3 z0] l := ⟨_, rfl⟩
  rw [← hR]
  have u0 : 0 ≤ l ∧ l ≤ 1048576 := by omega
  have c0 := c_szFileS z0 (l) qz0 u0
  have d0 := szG_le (.sl 3 sh_File) [.sl 3 z0] (l) u0.1
  generalize g0 : szG (.sl 3 sh_File) [.sl 3 z0] (l) = r0 at c0 d0
  by_cases h0 : r0 < 0
  · have hE : R = -1 := hR.trans (two_neg (x := [.sl 3 z0]) (y := []) rfl g0 h0)
    rw [hE]
    clear hR hE
    refine ct_intro ttE_ok 1 rfl Tryz.func57 rfl rfl rfl ?_
    repeat ((try conv => whnf); first | (refine ccA ([]) (c0) ?_) | (refine stpQ ?_))
    (refine ans_auto (by rfl) ?_ ?_ (by rfl)) <;> (repeat' (first | (exact eqA) | (refine And.intro ?_ ?_) | ((fail_if_success (with_reducible (show _ = _))); (show _ = _))))
  have hE : R = r0 := hR.trans ((two_pos (x := [.sl 3 z0]) (y := []) rfl g0 h0).trans (rfl))
  rw [hE]
  clear hR hE
  refine ct_intro ttE_ok 1 rfl Tryz.func57 rfl rfl rfl ?_
  repeat ((try conv => whnf); first | (refine ccA ([]) (c0) ?_) | (refine stpQ ?_))
  (refine ans_auto (by rfl) ?_ ?_ (by rfl)) <;> (repeat' (first | (exact eqA) | (refine And.intro ?_ ?_) | ((fail_if_success (with_reducible (show _ = _))); (show _ = _))))
set_option maxRecDepth 100000 in
set_option maxHeartbeats 2000000 in
theorem c_szHead (e : List T) (l : Int) (h : Fits maxLen sh_Head e) (hl : 0 ≤ l ∧ l ≤ 1048576) : CT Tryz.prog 98 [] [.agg e, .int .i64 l] (.int .i64 (szG sh_Head e l)) [] := by
  obtain ⟨n0, n1, s2, s3, rfl, qn0, qn1, qs2, qs3, -⟩ := fits_Head h
  clear h
  obtain ⟨R, hR⟩ : ∃ R, R = szG sh_Head [.int .i64 n0, .int .i64 n1, .str s2, .str s3] l := ⟨_, rfl⟩
  rw [← hR]
  have k0 : ¬ l < 0 := by omega
  have k1 : ¬ l < 0 := by omega
  have u0 : 0 ≤ l ∧ l ≤ 1048576 := by omega
  have m0 : (s2.length : Int) ≤ 9223372036854775807 := by have := qs2; unfold maxLen at this; omega
  by_cases h0 : l - (s2.length : Int) < 0
  · have hE : R = -1 := hR.trans ((two_pos (r := l) (x := [.int .i64 n0]) (y := [.int .i64 n1, .str s2, .str s3]) rfl rfl k0).trans ((two_pos (r := l) (x := [.int .i64 n1]) (y := [.str s2, .str s3]) rfl rfl k1).trans (two_neg (x := [.str s2]) (y := [.str s3]) rfl (str_neg h0) (by decide))))
    rw [hE]
    clear hR hE
    refine ct_intro ttE_ok 1 rfl Tryz.func98 rfl rfl rfl ?_
    repeat ((try conv => whnf); first | (refine stpQ ?_))
    (refine ans_auto (by rfl) ?_ ?_ (by rfl)) <;> (repeat' (first | (exact eqA) | (refine And.intro ?_ ?_) | ((fail_if_success (with_reducible (show _ = _))); (show _ = _))))
  have u1 : 0 ≤ l - (s2.length : Int) ∧ l - (s2.length : Int) ≤ 1048576 := by omega
  have m1 : (s3.length : Int) ≤ 9223372036854775807 := by have := qs3; unfold maxLen at this; omega
  by_cases h1 : l - (s2.length : Int) - (s3.length : Int) < 0
  · have hE : R = -1 := hR.trans ((two_pos (r := l) (x := [.int .i64 n0]) (y := [.int .i64 n1, .str s2, .str s3]) rfl rfl k0).trans ((two_pos (r := l) (x := [.int .i64 n1]) (y := [.str s2, .str s3]) rfl rfl k1).trans ((two_pos (x := [.str s2]) (y := [.str s3]) rfl (str_pos h0) h0).trans (two_neg (x := [.str s3]) (y := []) rfl (str_neg h1) (by decide)))))
    rw [hE]
    clear hR hE
    refine ct_intro ttE_ok 1 rfl Tryz.func98 rfl rfl rfl ?_
    repeat ((try conv => whnf); first | (refine stpQ ?_))
    (refine ans_auto (by rfl) ?_ ?_ (by rfl)) <;> (repeat' (first | (exact eqA) | (refine And.intro ?_ ?_) | ((fail_if_success (with_reducible (show _ = _))); (show _ = _))))
  have hE : R = l - (s2.length : Int) - (s3.length : Int) := hR.trans ((two_pos (r := l) (x := [.int .i64 n0]) (y := [.int .i64 n1, .str s2, .str s3]) rfl rfl k0).trans ((two_pos (r := l) (x := [.int .i64 n1]) (y := [.str s2, .str s3]) rfl rfl k1).trans ((two_pos (x := [.str s2]) (y := [.str s3]) rfl (str_pos h0) h0).trans ((two_pos (x := [.str s3]) (y := []) rfl (str_pos h1) h1).trans (rfl)))))
  rw [hE]
  clear hR hE
  refine ct_intro ttE_ok 1 rfl Tryz.func98 rfl rfl rfl ?_
  repeat ((try conv => whnf); first | (refine stpQ ?_))
  (refine ans_auto (by rfl) ?_ ?_ (by rfl)) <;> (repeat' (first | (exact eqA) | (refine And.intro ?_ ?_) | ((fail_if_success (with_reducible (show _ = _))); (show _ = _))))
set_option maxRecDepth 100000 in
set_option maxHeartbeats 1000000 in
theorem c_szStringS (z : List (List T)) (l : Int) (h : z.length ≤ maxLen ∧ ∀ e ∈ z, Fits maxLen .str e) (hl : 0 ≤ l ∧ l ≤ 1048576) : CT Tryz.prog 56 [] [.sl 1 z, .int .i64 l] (.int .i64 (szG (.sl 1 .str) [.sl 1 z] l)) [] := by
  obtain ⟨hn, hz⟩ := h
  have hn2 : (z.length : Int) ≤ 9223372036854775807 := by unfold maxLen at hn; omega
  by_cases h0 : l - (z.length : Int) < 0
  · have e : szG (.sl 1 .str) [.sl 1 z] l = -1 := by simp [szG, lenT, h0]
    rw [e]
    refine ct_intro ttE_ok 1 rfl Tryz.func56 rfl rfl rfl ?_
    repeat ((try conv => whnf); first | (refine stpQ ?_))
    (refine ans_auto (by rfl) ?_ ?_ (by rfl)) <;> (repeat' (first | (exact eqA) | (refine And.intro ?_ ?_) | ((fail_if_success (with_reducible (show _ = _))); (show _ = _))))
  have e : szG (.sl 1 .str) [.sl 1 z] l = szL (szG .str) z (l - z.length) := by simp [szG, lenT, elsT, h0]
  rw [e]
  clear e
  generalize hR : szL (szG .str) z (l - z.length) = R
  refine ct_intro ttE_ok 1 rfl Tryz.func56 rfl rfl rfl ?_
  repeat ((try conv => whnf); first | (refine stpQ ?_))
  refine loop_of (Nat × Int) (fun x => ⟨[(0, .sl 1 z), (1, .int .i64 x.2), (5, .int .i64 (x.1 : Int))], [], 1⟩) (fun x => (x.1 ≤ z.length ∧ 0 ≤ x.2 ∧ x.2 ≤ 1048576) ∧ szL (szG .str) (z.drop x.1) x.2 = R) (fun x => z.length - x.1) (0, l - z.length) ⟨⟨Nat.zero_le _, by show (0 : Int) ≤ l - z.length; omega, by show l - z.length ≤ (1048576 : Int); omega⟩, hR⟩ ?_ ?_
  · (refine le_auto (by rfl) ?_ ?_) <;> (repeat' (first | (exact eqA) | (refine And.intro ?_ ?_) | ((fail_if_success (with_reducible (show _ = _))); (show _ = _)))) <;> first | rfl | decide
  · intro x hx
    obtain ⟨i, c⟩ := x
    have hi : i ≤ z.length := hx.1.1
    have hc0 : 0 ≤ c := hx.1.2.1
    have hc1 : c ≤ 1048576 := hx.1.2.2
    have hr : szL (szG .str) (z.drop i) c = R := hx.2
    clear hx hR
    by_cases hlt : i < z.length
    · have hi2 : (i : Int) < (z.length : Int) := by omega
      have hmem : z[i] ∈ z := List.getElem_mem hlt
      have gi : z[i]? = some z[i] := List.getElem?_eq_getElem hlt
      have hf := hz _ hmem
      rw [szL_drop gi] at hr
      generalize z[i] = e at hf gi hr
      obtain ⟨s, rfl, hf1⟩ := hf
      have hf2 : (s.length : Int) ≤ 9223372036854775807 := by unfold maxLen at hf1; omega
      have hb : ¬ (c - (s.length : Int) < 0) → 0 ≤ c - (s.length : Int) ∧ c - (s.length : Int) ≤ c := fun h => by omega
      have hE : szG .str [.str s] c = if c - (s.length : Int) < 0 then -1 else c - (s.length : Int) := rfl
      rw [hE] at hr
      by_cases hneg : c - (s.length : Int) < 0
      · rw [if_pos hneg, if_pos (by decide)] at hr
        rw [← hr]
        repeat ((try conv => whnf); first | (refine i_at gi ?_) | (refine stpQ ?_))
        (refine ans_auto (by rfl) ?_ ?_ (by rfl)) <;> (repeat' (first | (exact eqA) | (refine And.intro ?_ ?_) | ((fail_if_success (with_reducible (show _ = _))); (show _ = _))))
      · rw [if_neg hneg, if_neg hneg] at hr
        repeat ((try conv => whnf); first | (refine i_at gi ?_) | (refine stpQ ?_))
        refine ⟨(i + 1, c - s.length), ⟨⟨hlt, by show (0 : Int) ≤ c - s.length; omega, by show c - s.length ≤ (1048576 : Int); omega⟩, hr⟩, by show z.length - (i + 1) < z.length - i; omega, ?_⟩
        (refine le_auto (by rfl) ?_ ?_) <;> (repeat' (first | (exact eqA) | (refine And.intro ?_ ?_) | ((fail_if_success (with_reducible (show _ = _))); (show _ = _))))
    · obtain rfl : i = z.length := by omega
      rw [List.drop_length] at hr
      have hr2 : c = R := hr
      rw [← hr2]
      repeat ((try conv => whnf); first | (refine stpQ ?_))
      (refine ans_auto (by rfl) ?_ ?_ (by rfl)) <;> (repeat' (first | (exact eqA) | (refine And.intro ?_ ?_) | ((fail_if_success (with_reducible (show _ = _))); (show _ = _))))
set_option maxRecDepth 100000 in
set_option maxHeartbeats 2000000 in
theorem c_szSig (e : List T) (l : Int) (h : Fits maxLen sh_Sig e) (hl : 0 ≤ l ∧ l ≤ 1048576) : CT Tryz.prog 82 [] [.agg e, .int .i64 l] (.int .i64 (szG sh_Sig e l)) [] := by
  obtain ⟨n0, z1, z2, z3, rfl, qn0, qz1, qz2, qz3, -⟩ := fits_Sig h
  clear h
  obtain ⟨R, hR⟩ : ∃ R, R = szG sh_Sig [.int .i64 n0, .sl 1 z1, .sl 1 z2, .sl 1 z3] l := ⟨_, rfl⟩
  rw [← hR]
  have k0 : ¬ l < 0 := by omega
  have u0 : 0 ≤ l ∧ l ≤ 1048576 := by omega
  have c0 := c_szStringS z1 (l) qz1 u0
  have d0 := szG_le (.sl 1 .str) [.sl 1 z1] (l) u0.1
  generalize g0 : szG (.sl 1 .str) [.sl 1 z1] (l) = r0 at c0 d0
  by_cases h0 : r0 < 0
  · have hE : R = -1 := hR.trans ((two_pos (r := l) (x := [.int .i64 n0]) (y := [.sl 1 z1, .sl 1 z2, .sl 1 z3]) rfl rfl k0).trans (two_neg (x := [.sl 1 z1]) (y := [.sl 1 z2, .sl 1 z3]) rfl g0 h0))
    rw [hE]
    clear hR hE
    refine ct_intro ttE_ok 1 rfl Tryz.func82 rfl rfl rfl ?_
    repeat ((try conv => whnf); first | (refine ccA ([]) (c0) ?_) | (refine stpQ ?_))
    (refine ans_auto (by rfl) ?_ ?_ (by rfl)) <;> (repeat' (first | (exact eqA) | (refine And.intro ?_ ?_) | ((fail_if_success (with_reducible (show _ = _))); (show _ = _))))
  have u1 : 0 ≤ r0 ∧ r0 ≤ 1048576 := by omega
  have c1 := c_szStringS z2 (r0) qz2 u1
  have d1 := szG_le (.sl 1 .str) [.sl 1 z2] (r0) u1.1
  generalize g1 : szG (.sl 1 .str) [.sl 1 z2] (r0) = r1 at c1 d1
  by_cases h1 : r1 < 0
  · have hE : R = -1 := hR.trans ((two_pos (r := l) (x := [.int .i64 n0]) (y := [.sl 1 z1, .sl 1 z2, .sl 1 z3]) rfl rfl k0).trans ((two_pos (x := [.sl 1 z1]) (y := [.sl 1 z2, .sl 1 z3]) rfl g0 h0).trans (two_neg (x := [.sl 1 z2]) (y := [.sl 1 z3]) rfl g1 h1)))
    rw [hE]
    clear hR hE
    refine ct_intro ttE_ok 1 rfl Tryz.func82 rfl rfl rfl ?_
    repeat ((try conv => whnf); first | (refine ccA ([]) (c0) ?_) | (refine ccA ([]) (c1) ?_) | (refine stpQ ?_))
    (refine ans_auto (by rfl) ?_ ?_ (by rfl)) <;> (repeat' (first | (exact eqA) | (refine And.intro ?_ ?_) | ((fail_if_success (with_reducible (show _ = _))); (show _ = _))))
  have u2 : 0 ≤ r1 ∧ r1 ≤ 1048576 := by omega
  have c2 := c_szStringS z3 (r1) qz3 u2
  have d2 := szG_le (.sl 1 .str) [.sl 1 z3] (r1) u2.1
  generalize g2 : szG (.sl 1 .str) [.sl 1 z3] (r1) = r2 at c2 d2
  by_cases h2 : r2 < 0
  · have hE : R = -1 := hR.trans ((two_pos (r := l) (x := [.int .i64 n0]) (y := [.sl 1 z1, .sl 1 z2, .sl 1 z3]) rfl rfl k0).trans ((two_pos (x := [.sl 1 z1]) (y := [.sl 1 z2, .sl 1 z3]) rfl g0 h0).trans ((two_pos (x := [.sl 1 z2]) (y := [.sl 1 z3]) rfl g1 h1).trans (two_neg (x := [.sl 1 z3]) (y := []) rfl g2 h2))))
    rw [hE]
    clear hR hE
    refine ct_intro ttE_ok 1 rfl Tryz.func82 rfl rfl rfl ?_
    repeat ((try conv => whnf); first | (refine ccA ([]) (c0) ?_) | (refine ccA ([]) (c1) ?_) | (refine ccA ([]) (c2) ?_) | (refine stpQ ?_))
    (refine ans_auto (by rfl) ?_ ?_ (by rfl)) <;> (repeat' (first | (exact eqA) | (refine And.intro ?_ ?_) | ((fail_if_success (with_reducible (show _ = _))); (show _ = _))))
  have hE : R = r2 := hR.trans ((two_pos (r := l) (x := [.int .i64 n0]) (y := [.sl 1 z1, .sl 1 z2, .sl 1 z3]) rfl rfl k0).trans ((two_pos (x := [.sl 1 z1]) (y := [.sl 1 z2, .sl 1 z3]) rfl g0 h0).trans ((two_pos (x := [.sl 1 z2]) (y := [.sl 1 z3]) rfl g1 h1).trans ((two_pos (x := [.sl 1 z3]) (y := []) rfl g2 h2).trans (rfl)))))
  rw [hE]
  clear hR hE
  refine ct_intro ttE_ok 1 rfl Tryz.func82 rfl rfl rfl ?_
  repeat ((try conv => whnf); first | (refine ccA ([]) (c0) ?_) | (refine ccA ([]) (c1) ?_) | (refine ccA ([]) (c2) ?_) | (refine stpQ ?_))
  (refine ans_auto (by rfl) ?_ ?_ (by rfl)) <;> (repeat' (first | (exact eqA) | (refine And.intro ?_ ?_) | ((fail_if_success (with_reducible (show _ = _))); (show _ = _))))
set_option maxRecDepth 100000 in
set_option maxHeartbeats 2000000 in
theorem c_szSeal (e : List T) (l : Int) (h : Fits maxLen sh_Seal e) (hl : 0 ≤ l ∧ l ≤ 1048576) : CT Tryz.prog 80 [] [.agg e, .int .i64 l] (.int .i64 (szG sh_Seal e l)) [] := by
  obtain ⟨n0, n1, s2, s3, n4, z5, z6, z7, rfl, qn0, qn1, qs2, qs3, qn4, qz5, qz6, qz7, -⟩ := fits_Seal h
  clear h
  obtain ⟨R, hR⟩ : ∃ R, R = szG sh_Seal [.int .i64 n0, .int .i64 n1, .str s2, .str s3, .int .i64 n4, .sl 1 z5, .sl 1 z6, .sl 1 z7] l := ⟨_, rfl⟩
  rw [← hR]
  have u0 : 0 ≤ l ∧ l ≤ 1048576 := by omega
  have c0 := c_szHead [.int .i64 n0, .int .i64 n1, .str s2, .str s3] (l) (mk_Head qn0 qn1 qs2 qs3) u0
  have d0 := szG_le sh_Head [.int .i64 n0, .int .i64 n1, .str s2, .str s3] (l) u0.1
  generalize g0 : szG sh_Head [.int .i64 n0, .int .i64 n1, .str s2, .str s3] (l) = r0 at c0 d0
  by_cases h0 : r0 < 0
  · have hE : R = -1 := hR.trans (two_neg (x := [.int .i64 n0, .int .i64 n1, .str s2, .str s3]) (y := [.int .i64 n4, .sl 1 z5, .sl 1 z6, .sl 1 z7]) rfl g0 h0)
    rw [hE]
    clear hR hE
    refine ct_intro ttE_ok 1 rfl Tryz.func80 rfl rfl rfl ?_
    repeat ((try conv => whnf); first | (refine ccA ([]) (c0) ?_) | (refine stpQ ?_))
    (refine ans_auto (by rfl) ?_ ?_ (by rfl)) <;> (repeat' (first | (exact eqA) | (refine And.intro ?_ ?_) | ((fail_if_success (with_reducible (show _ = _))); (show _ = _))))
  have u1 : 0 ≤ r0 ∧ r0 ≤ 1048576 := by omega
  have c1 := c_szSig [.int .i64 n4, .sl 1 z5, .sl 1 z6, .sl 1 z7] (r0) (mk_Sig qn4 qz5 qz6 qz7) u1
  have d1 := szG_le sh_Sig [.int .i64 n4, .sl 1 z5, .sl 1 z6, .sl 1 z7] (r0) u1.1
  generalize g1 : szG sh_Sig [.int .i64 n4, .sl 1 z5, .sl 1 z6, .sl 1 z7] (r0) = r1 at c1 d1
  by_cases h1 : r1 < 0
  · have hE : R = -1 := hR.trans ((two_pos (x := [.int .i64 n0, .int .i64 n1, .str s2, .str s3]) (y := [.int .i64 n4, .sl 1 z5, .sl 1 z6, .sl 1 z7]) rfl g0 h0).trans (two_neg (x := [.int .i64 n4, .sl 1 z5, .sl 1 z6, .sl 1 z7]) (y := []) rfl g1 h1))
    rw [hE]
    clear hR hE
    refine ct_intro ttE_ok 1 rfl Tryz.func80 rfl rfl rfl ?_
    repeat ((try conv => whnf); first | (refine ccA ([]) (c0) ?_) | (refine ccA ([]) (c1) ?_) | (refine stpQ ?_))
    (refine ans_auto (by rfl) ?_ ?_ (by rfl)) <;> (repeat' (first | (exact eqA) | (refine And.intro ?_ ?_) | ((fail_if_success (with_reducible (show _ = _))); (show _ = _))))
  have hE : R = r1 := hR.trans ((two_pos (x := [.int .i64 n0, .int .i64 n1, .str s2, .str s3]) (y := [.int .i64 n4, .sl 1 z5, .sl 1 z6, .sl 1 z7]) rfl g0 h0).trans ((two_pos (x := [.int .i64 n4, .sl 1 z5, .sl 1 z6, .sl 1 z7]) (y := []) rfl g1 h1).trans (rfl)))
  rw [hE]
  clear hR hE
  refine ct_intro ttE_ok 1 rfl Tryz.func80 rfl rfl rfl ?_
  repeat ((try conv => whnf); first | (refine ccA ([]) (c0) ?_) | (refine ccA ([]) (c1) ?_) | (refine stpQ ?_))
  (refine ans_auto (by rfl) ?_ ?_ (by rfl)) <;> (repeat' (first | (exact eqA) | (refine And.intro ?_ ?_) | ((fail_if_success (with_reducible (show _ = _))); (show _ = _))))
set_option maxRecDepth 100000 in
set_option maxHeartbeats 2000000 in
theorem c_szStamp (e : List T) (l : Int) (h : Fits maxLen sh_Stamp e) (hl : 0 ≤ l ∧ l ≤ 1048576) : CT Tryz.prog 60 [] [.agg e, .int .i64 l] (.int .i64 (szG sh_Stamp e l)) [] := by
  obtain ⟨n0, n1, z2, z3, z4, rfl, qn0, qn1, qz2, qz3, qz4, -⟩ := fits_Stamp h
  clear h
  obtain ⟨R, hR⟩ : ∃ R, R = szG sh_Stamp [.int .i64 n0, .int .i64 n1, .sl 1 z2, .sl 1 z3, .sl 1 z4] l := ⟨_, rfl⟩
  rw [← hR]
  have k0 : ¬ l < 0 := by omega
  have u0 : 0 ≤ l ∧ l ≤ 1048576 := by omega
  have c0 := c_szSig [.int .i64 n1, .sl 1 z2, .sl 1 z3, .sl 1 z4] (l) (mk_Sig qn1 qz2 qz3 qz4) u0
  have d0 := szG_le sh_Sig [.int .i64 n1, .sl 1 z2, .sl 1 z3, .sl 1 z4] (l) u0.1
  generalize g0 : szG sh_Sig [.int .i64 n1, .sl 1 z2, .sl 1 z3, .sl 1 z4] (l) = r0 at c0 d0
  by_cases h0 : r0 < 0
  · have hE : R = -1 := hR.trans ((two_pos (r := l) (x := [.int .i64 n0]) (y := [.int .i64 n1, .sl 1 z2, .sl 1 z3, .sl 1 z4]) rfl rfl k0).trans (two_neg (x := [.int .i64 n1, .sl 1 z2, .sl 1 z3, .sl 1 z4]) (y := []) rfl g0 h0))
    rw [hE]
    clear hR hE
    refine ct_intro ttE_ok 1 rfl Tryz.func60 rfl rfl rfl ?_
    repeat ((try conv => whnf); first | (refine ccA ([]) (c0) ?_) | (refine stpQ ?_))
    (refine ans_auto (by rfl) ?_ ?_ (by rfl)) <;> (repeat' (first | (exact eqA) | (refine And.intro ?_ ?_) | ((fail_if_success (with_reducible (show _ = _))); (show _ = _))))
  have hE : R = r0 := hR.trans ((two_pos (r := l) (x := [.int .i64 n0]) (y := [.int .i64 n1, .sl 1 z2, .sl 1 z3, .sl 1 z4]) rfl rfl k0).trans ((two_pos (x := [.int .i64 n1, .sl 1 z2, .sl 1 z3, .sl 1 z4]) (y := []) rfl g0 h0).trans (rfl)))
  rw [hE]
  clear hR hE
  refine ct_intro ttE_ok 1 rfl Tryz.func60 rfl rfl rfl ?_
  repeat ((try conv => whnf); first | (refine ccA ([]) (c0) ?_) | (refine stpQ ?_))
  (refine ans_auto (by rfl) ?_ ?_ (by rfl)) <;> (repeat' (first | (exact eqA) | (refine And.intro ?_ ?_) | ((fail_if_success (with_reducible (show _ = _))); (show _ = _))))
set_option maxRecDepth 100000 in
set_option maxHeartbeats 2000000 in
theorem c_szPair (e : List T) (l : Int) (h : Fits maxLen sh_Pair e) (hl : 0 ≤ l ∧ l ≤ 1048576) : CT Tryz.prog 81 [] [.agg e, .int .i64 l] (.int .i64 (szG sh_Pair e l)) [] := by
  obtain ⟨n0, n1, s2, s3, n4, z5, z6, z7, n8, n9, s10, s11, n12, z13, z14, z15, rfl, qn0, qn1, qs2, qs3, qn4, qz5, qz6, qz7, qn8, qn9, qs10, qs11, qn12, qz13, qz14, qz15, -⟩ := fits_Pair h
  clear h
  obtain ⟨R, hR⟩ : ∃ R, R = szG sh_Pair [.int .i64 n0, .int .i64 n1, .str s2, .str s3, .int .i64 n4, .sl 1 z5, .sl 1 z6, .sl 1 z7, .int .i64 n8, .int .i64 n9, .str s10, .str s11, .int .i64 n12, .sl 1 z13, .sl 1 z14, .sl 1 z15] l := ⟨_, rfl⟩
  rw [← hR]
  have u0 : 0 ≤ l ∧ l ≤ 1048576 := by omega
  have c0 := c_szSeal [.int .i64 n0, .int .i64 n1, .str s2, .str s3, .int .i64 n4, .sl 1 z5, .sl 1 z6, .sl 1 z7] (l) (mk_Seal qn0 qn1 qs2 qs3 qn4 qz5 qz6 qz7) u0
  have d0 := szG_le sh_Seal [.int .i64 n0, .int .i64 n1, .str s2, .str s3, .int .i64 n4, .sl 1 z5, .sl 1 z6, .sl 1 z7] (l) u0.1
  generalize g0 : szG sh_Seal [.int .i64 n0, .int .i64 n1, .str s2, .str s3, .int .i64 n4, .sl 1 z5, .sl 1 z6, .sl 1 z7] (l) = r0 at c0 d0
  by_cases h0 : r0 < 0
  · have hE : R = -1 := hR.trans (two_neg (x := [.int .i64 n0, .int .i64 n1, .str s2, .str s3, .int .i64 n4, .sl 1 z5, .sl 1 z6, .sl 1 z7]) (y := [.int .i64 n8, .int .i64 n9, .str s10, .str s11, .int .i64 n12, .sl 1 z13, .sl 1 z14, .sl 1 z15]) rfl g0 h0)
    rw [hE]
    clear hR hE
    refine ct_intro ttE_ok 1 rfl Tryz.func81 rfl rfl rfl ?_
    repeat ((try conv => whnf); first | (refine ccA ([]) (c0) ?_) | (refine stpQ ?_))
    (refine ans_auto (by rfl) ?_ ?_ (by rfl)) <;> (repeat' (first | (exact eqA) | (refine And.intro ?_ ?_) | ((fail_if_success (with_reducible (show _ = _))); (show _ = _))))
  have u1 : 0 ≤ r0 ∧ r0 ≤ 1048576 := by omega
  have c1 := c_szSeal [.int .i64 n8, .int .i64 n9, .str s10, .str s11, .int .i64 n12, .sl 1 z13, .sl 1 z14, .sl 1 z15] (r0) (mk_Seal qn8 qn9 qs10 qs11 qn12 qz13 qz14 qz15) u1
  have d1 := szG_le sh_Seal [.int .i64 n8, .int .i64 n9, .str s10, .str s11, .int .i64 n12, .sl 1 z13, .sl 1 z14, .sl 1 z15] (r0) u1.1
  generalize g1 : szG sh_Seal [.int .i64 n8, .int .i64 n9, .str s10, .str s11, .int .i64 n12, .sl 1 z13, .sl 1 z14, .sl 1 z15] (r0) = r1 at c1 d1
  by_cases h1 : r1 < 0
  · have hE : R = -1 := hR.trans ((two_pos (x := [.int .i64 n0, .int .i64 n1, .str s2, .str s3, .int .i64 n4, .sl 1 z5, .sl 1 z6, .sl 1 z7]) (y := [.int .i64 n8, .int .i64 n9, .str s10, .str s11, .int .i64 n12, .sl 1 z13, .sl 1 z14, .sl 1 z15]) rfl g0 h0).trans (two_neg (x := [.int .i64 n8, .int .i64 n9, .str s10, .str s11, .int .i64 n12, .sl 1 z13, .sl 1 z14, .sl 1 z15]) (y := []) rfl g1 h1))
    rw [hE]
    clear hR hE
    refine ct_intro ttE_ok 1 rfl Tryz.func81 rfl rfl rfl ?_
    repeat ((try conv => whnf); first | (refine ccA ([]) (c0) ?_) | (refine ccA ([]) (c1) ?_) | (refine stpQ ?_))
    (refine ans_auto (by rfl) ?_ ?_ (by rfl)) <;> (repeat' (first | (exact eqA) | (refine And.intro ?_ ?_) | ((fail_if_success (with_reducible (show _ = _))); (show _ = _))))
  have hE : R = r1 := hR.trans ((two_pos (x := [.int .i64 n0, .int .i64 n1, .str s2, .str s3, .int .i64 n4, .sl 1 z5, .sl 1 z6, .sl 1 z7]) (y := [.int .i64 n8, .int .i64 n9, .str s10, .str s11, .int .i64 n12, .sl 1 z13, .sl 1 z14, .sl 1 z15]) rfl g0 h0).trans ((two_pos (x := [.int .i64 n8, .int .i64 n9, .str s10, .str s11, .int .i64 n12, .sl 1 z13, .sl 1 z14, .sl 1 z15]) (y := []) rfl g1 h1).trans (rfl)))
  rw [hE]
  clear hR hE
  refine ct_intro ttE_ok 1 rfl Tryz.func81 rfl rfl rfl ?_
  repeat ((try conv => whnf); first | (refine ccA ([]) (c0) ?_) | (refine ccA ([]) (c1) ?_) | (refine stpQ ?_))
  (refine ans_auto (by rfl) ?_ ?_ (by rfl)) <;> (repeat' (first | (exact eqA) | (refine And.intro ?_ ?_) | ((fail_if_success (with_reducible (show _ = _))); (show _ = _))))
set_option maxRecDepth 100000 in
set_option maxHeartbeats 1000000 in
theorem c_szLeafS (z : List (List T)) (l : Int) (h : z.length ≤ maxLen ∧ ∀ e ∈ z, Fits maxLen sh_Leaf e) (hl : 0 ≤ l ∧ l ≤ 1048576) : CT Tryz.prog 112 [] [.sl 2 z, .int .i64 l] (.int .i64 (szG (.sl 2 sh_Leaf) [.sl 2 z] l)) [] := by
  obtain ⟨hn, hz⟩ := h
  have hn2 : (z.length : Int) ≤ 9223372036854775807 := by unfold maxLen at hn; omega
  by_cases h0 : l - (z.length : Int) < 0
  · have e : szG (.sl 2 sh_Leaf) [.sl 2 z] l = -1 := by simp [szG, lenT, h0]
    rw [e]
    refine ct_intro ttE_ok 1 rfl Tryz.func112 rfl rfl rfl ?_
    repeat ((try conv => whnf); first | (refine stpQ ?_))
    (refine ans_auto (by rfl) ?_ ?_ (by rfl)) <;> (repeat' (first | (exact eqA) | (refine And.intro ?_ ?_) | ((fail_if_success (with_reducible (show _ = _))); (show _ = _))))
  have e : szG (.sl 2 sh_Leaf) [.sl 2 z] l = szL (szG sh_Leaf) z (l - z.length) := by simp [szG, lenT, elsT, h0]
  rw [e]
  clear e
  generalize hR : szL (szG sh_Leaf) z (l - z.length) = R
  refine ct_intro ttE_ok 1 rfl Tryz.func112 rfl rfl rfl ?_
  repeat ((try conv => whnf); first | (refine stpQ ?_))
  refine loop_of (Nat × Int) (fun x => ⟨[(0, .sl 2 z), (1, .int .i64 x.2), (5, .int .i64 (x.1 : Int))], [], 1⟩) (fun x => (x.1 ≤ z.length ∧ 0 ≤ x.2 ∧ x.2 ≤ 1048576) ∧ szL (szG sh_Leaf) (z.drop x.1) x.2 = R) (fun x => z.length - x.1) (0, l - z.length) ⟨⟨Nat.zero_le _, by show (0 : Int) ≤ l - z.length; omega, by show l - z.length ≤ (1048576 : Int); omega⟩, hR⟩ ?_ ?_
  · (refine le_auto (by rfl) ?_ ?_) <;> (repeat' (first | (exact eqA) | (refine And.intro ?_ ?_) | ((fail_if_success (with_reducible (show _ = _))); (show _ = _)))) <;> first | rfl | decide
  · intro x hx
    obtain ⟨i, c⟩ := x
    have hi : i ≤ z.length := hx.1.1
    have hc0 : 0 ≤ c := hx.1.2.1
    have hc1 : c ≤ 1048576 := hx.1.2.2
    have hr : szL (szG sh_Leaf) (z.drop i) c = R := hx.2
    clear hx hR
    by_cases hlt : i < z.length
    · have hi2 : (i : Int) < (z.length : Int) := by omega
      have hmem : z[i] ∈ z := List.getElem_mem hlt
      have gi : z[i]? = some z[i] := List.getElem?_eq_getElem hlt
      have hf := hz _ hmem
      rw [szL_drop gi] at hr
      generalize z[i] = e at hf gi hr
      obtain ⟨s0, s1, rfl, -⟩ := fits_Leaf hf
      have cE := c_szLeaf [.str s0, .str s1] c hf ⟨hc0, hc1⟩
      have hb := szG_le sh_Leaf [.str s0, .str s1] c hc0
      generalize szG sh_Leaf [.str s0, .str s1] c = r at cE hb hr
      by_cases hneg : r < 0
      · rw [if_pos hneg] at hr
        rw [← hr]
        repeat ((try conv => whnf); first | (refine i_at gi ?_) | (refine ccA ([]) (cE) ?_) | (refine stpQ ?_))
        (refine ans_auto (by rfl) ?_ ?_ (by rfl)) <;> (repeat' (first | (exact eqA) | (refine And.intro ?_ ?_) | ((fail_if_success (with_reducible (show _ = _))); (show _ = _))))
      · rw [if_neg hneg] at hr
        repeat ((try conv => whnf); first | (refine i_at gi ?_) | (refine ccA ([]) (cE) ?_) | (refine stpQ ?_))
        refine ⟨(i + 1, r), ⟨⟨hlt, by show 0 ≤ r; omega, by show r ≤ 1048576; omega⟩, hr⟩, by show z.length - (i + 1) < z.length - i; omega, ?_⟩
        (refine le_auto (by rfl) ?_ ?_) <;> (repeat' (first | (exact eqA) | (refine And.intro ?_ ?_) | ((fail_if_success (with_reducible (show _ = _))); (show _ = _))))
    · obtain rfl : i = z.length := by omega
      rw [List.drop_length] at hr
      have hr2 : c = R := hr
      rw [← hr2]
      repeat ((try conv => whnf); first | (refine stpQ ?_))
      (refine ans_auto (by rfl) ?_ ?_ (by rfl)) <;> (repeat' (first | (exact eqA) | (refine And.intro ?_ ?_) | ((fail_if_success (with_reducible (show _ = _))); (show _ = _))))
set_option maxRecDepth 100000 in
set_option maxHeartbeats 1000000 in
theorem c_szLeafSS (z : List (List T)) (l : Int) (h : z.length ≤ maxLen ∧ ∀ e ∈ z, Fits maxLen (.sl 2 sh_Leaf) e) (hl : 0 ≤ l ∧ l ≤ 1048576) : CT Tryz.prog 95 [] [.sl 1 z, .int .i64 l] (.int .i64 (szG (.sl 1 (.sl 2 sh_Leaf)) [.sl 1 z] l)) [] := by
  obtain ⟨hn, hz⟩ := h
  have hn2 : (z.length : Int) ≤ 9223372036854775807 := by unfold maxLen at hn; omega
  by_cases h0 : l - (z.length : Int) < 0
  · have e : szG (.sl 1 (.sl 2 sh_Leaf)) [.sl 1 z] l = -1 := by simp [szG, lenT, h0]
    rw [e]
    refine ct_intro ttE_ok 1 rfl Tryz.func95 rfl rfl rfl ?_
    repeat ((try conv => whnf); first | (refine stpQ ?_))
    (refine ans_auto (by rfl) ?_ ?_ (by rfl)) <;> (repeat' (first | (exact eqA) | (refine And.intro ?_ ?_) | ((fail_if_success (with_reducible (show _ = _))); (show _ = _))))
  have e : szG (.sl 1 (.sl 2 sh_Leaf)) [.sl 1 z] l = szL (szG (.sl 2 sh_Leaf)) z (l - z.length) := by simp [szG, lenT, elsT, h0]
  rw [e]
  clear e
  generalize hR : szL (szG (.sl 2 sh_Leaf)) z (l - z.length) = R
  refine ct_intro ttE_ok 1 rfl Tryz.func95 rfl rfl rfl ?_
  repeat ((try conv => whnf); first | (refine stpQ ?_))
  refine loop_of (Nat × Int) (fun x => ⟨[(0, .sl 1 z), (1, .int .i64 x.2), (5, .int .i64 (x.1 : Int))], [], 1⟩) (fun x => (x.1 ≤ z.length ∧ 0 ≤ x.2 ∧ x.2 ≤ 1048576) ∧ szL (szG (.sl 2 sh_Leaf)) (z.drop x.1) x.2 = R) (fun x => z.length - x.1) (0, l - z.length) ⟨⟨Nat.zero_le _, by show (0 : Int) ≤ l - z.length; omega, by show l - z.length ≤ (1048576 : Int); omega⟩, hR⟩ ?_ ?_
  · (refine le_auto (by rfl) ?_ ?_) <;> (repeat' (first | (exact eqA) | (refine And.intro ?_ ?_) | ((fail_if_success (with_reducible (show _ = _))); (show _ = _)))) <;> first | rfl | decide
  · intro x hx
    obtain ⟨i, c⟩ := x
    have hi : i ≤ z.length := hx.1.1
    have hc0 : 0 ≤ c := hx.1.2.1
    have hc1 : c ≤ 1048576 := hx.1.2.2
    have hr : szL (szG (.sl 2 sh_Leaf)) (z.drop i) c = R := hx.2
    clear hx hR
    by_cases hlt : i < z.length
    · have hi2 : (i : Int) < (z.length : Int) := by omega
      have hmem : z[i] ∈ z := List.getElem_mem hlt
      have gi : z[i]? = some z[i] := List.getElem?_eq_getElem hlt
      have hf := hz _ hmem
      rw [szL_drop gi] at hr
      generalize z[i] = e at hf gi hr
      obtain ⟨es, rfl, hf1⟩ := hf
      have cE := c_szLeafS es c hf1 ⟨hc0, hc1⟩
      have hb := szG_le (.sl 2 sh_Leaf) [.sl 2 es] c hc0
      generalize szG (.sl 2 sh_Leaf) [.sl 2 es] c = r at cE hb hr
      by_cases hneg : r < 0
      · rw [if_pos hneg] at hr
        rw [← hr]
        repeat ((try conv => whnf); first | (refine i_at gi ?_) | (refine ccA ([]) (cE) ?_) | (refine stpQ ?_))
        (refine ans_auto (by rfl) ?_ ?_ (by rfl)) <;> (repeat' (first | (exact eqA) | (refine And.intro ?_ ?_) | ((fail_if_success (with_reducible (show _ = _))); (show _ = _))))
      · rw [if_neg hneg] at hr
        repeat ((try conv => whnf); first | (refine i_at gi ?_) | (refine ccA ([]) (cE) ?_) | (refine stpQ ?_))
        refine ⟨(i + 1, r), ⟨⟨hlt, by show 0 ≤ r; omega, by show r ≤ 1048576; omega⟩, hr⟩, by show z.length - (i + 1) < z.length - i; omega, ?_⟩
        (refine le_auto (by rfl) ?_ ?_) <;> (repeat' (first | (exact eqA) | (refine And.intro ?_ ?_) | ((fail_if_success (with_reducible (show _ = _))); (show _ = _))))
    · obtain rfl : i = z.length := by omega
      rw [List.drop_length] at hr
      have hr2 : c = R := hr
      rw [← hr2]
      repeat ((try conv => whnf); first | (refine stpQ ?_))
      (refine ans_auto (by rfl) ?_ ?_ (by rfl)) <;> (repeat' (first | (exact eqA) | (refine And.intro ?_ ?_) | ((fail_if_success (with_reducible (show _ = _))); (show _ = _))))
set_option maxRecDepth 100000 in
set_option maxHeartbeats 1000000 in
theorem c_szIntS (z : List (List T)) (l : Int) (h : z.length ≤ maxLen ∧ ∀ e ∈ z, Fits maxLen .int e) (hl : 0 ≤ l ∧ l ≤ 1048576) : CT Tryz.prog 14 [] [.sl 1 z, .int .i64 l] (.int .i64 (szG (.sl 1 .int) [.sl 1 z] l)) [] := by
  obtain ⟨hn, hz⟩ := h
  have hn2 : (z.length : Int) ≤ 9223372036854775807 := by unfold maxLen at hn; omega
  by_cases h0 : l - (z.length : Int) < 0
  · have e : szG (.sl 1 .int) [.sl 1 z] l = -1 := by simp [szG, lenT, h0]
    rw [e]
    refine ct_intro ttE_ok 1 rfl Tryz.func14 rfl rfl rfl ?_
    repeat ((try conv => whnf); first | (refine stpQ ?_))
    (refine ans_auto (by rfl) ?_ ?_ (by rfl)) <;> (repeat' (first | (exact eqA) | (refine And.intro ?_ ?_) | ((fail_if_success (with_reducible (show _ = _))); (show _ = _))))
  have e : szG (.sl 1 .int) [.sl 1 z] l = szL (szG .int) z (l - z.length) := by simp [szG, lenT, elsT, h0]
  rw [e]
  clear e
  have e := szL_same (g := szG .int) (fun e l h => rfl) z (l - z.length) (by omega)
  rw [e]
  refine ct_intro ttE_ok 1 rfl Tryz.func14 rfl rfl rfl ?_
  repeat ((try conv => whnf); first | (refine stpQ ?_))
  (refine ans_auto (by rfl) ?_ ?_ (by rfl)) <;> (repeat' (first | (exact eqA) | (refine And.intro ?_ ?_) | ((fail_if_success (with_reducible (show _ = _))); (show _ = _))))
set_option maxRecDepth 100000 in
set_option maxHeartbeats 1000000 in
theorem c_szChangeS (z : List (List T)) (l : Int) (h : z.length ≤ maxLen ∧ ∀ e ∈ z, Fits maxLen sh_Change e) (hl : 0 ≤ l ∧ l ≤ 1048576) : CT Tryz.prog 96 [] [.sl 3 z, .int .i64 l] (.int .i64 (szG (.sl 3 sh_Change) [.sl 3 z] l)) [] := by
  obtain ⟨hn, hz⟩ := h
  have hn2 : (z.length : Int) ≤ 9223372036854775807 := by unfold maxLen at hn; omega
  by_cases h0 : l - (z.length : Int) < 0
  · have e : szG (.sl 3 sh_Change) [.sl 3 z] l = -1 := by simp [szG, lenT, h0]
    rw [e]
    refine ct_intro ttE_ok 1 rfl Tryz.func96 rfl rfl rfl ?_
    repeat ((try conv => whnf); first | (refine stpQ ?_))
    (refine ans_auto (by rfl) ?_ ?_ (by rfl)) <;> (repeat' (first | (exact eqA) | (refine And.intro ?_ ?_) | ((fail_if_success (with_reducible (show _ = _))); (show _ = _))))
  have e : szG (.sl 3 sh_Change) [.sl 3 z] l = szL (szG sh_Change) z (l - z.length) := by simp [szG, lenT, elsT, h0]
  rw [e]
  clear e
  generalize hR : szL (szG sh_Change) z (l - z.length) = R
  refine ct_intro ttE_ok 1 rfl Tryz.func96 rfl rfl rfl ?_
  repeat ((try conv => whnf); first | (refine stpQ ?_))
  refine loop_of (Nat × Int) (fun x => ⟨[(0, .sl 3 z), (1, .int .i64 x.2), (5, .int .i64 (x.1 : Int))], [], 1⟩) (fun x => (x.1 ≤ z.length ∧ 0 ≤ x.2 ∧ x.2 ≤ 1048576) ∧ szL (szG sh_Change) (z.drop x.1) x.2 = R) (fun x => z.length - x.1) (0, l - z.length) ⟨⟨Nat.zero_le _, by show (0 : Int) ≤ l - z.length; omega, by show l - z.length ≤ (1048576 : Int); omega⟩, hR⟩ ?_ ?_
  · (refine le_auto (by rfl) ?_ ?_) <;> (repeat' (first | (exact eqA) | (refine And.intro ?_ ?_) | ((fail_if_success (with_reducible (show _ = _))); (show _ = _)))) <;> first | rfl | decide
  · intro x hx
    obtain ⟨i, c⟩ := x
    have hi : i ≤ z.length := hx.1.1
    have hc0 : 0 ≤ c := hx.1.2.1
    have hc1 : c ≤ 1048576 := hx.1.2.2
    have hr : szL (szG sh_Change) (z.drop i) c = R := hx.2
    clear hx hR
    by_cases hlt : i < z.length
    · have hi2 : (i : Int) < (z.length : Int) := by omega
      have hmem : z[i] ∈ z := List.getElem_mem hlt
      have gi : z[i]? = some z[i] := List.getElem?_eq_getElem hlt
      have hf := hz _ hmem
      rw [szL_drop gi] at hr
      generalize z[i] = e at hf gi hr
      obtain ⟨n0, s1, s2, rfl, -⟩ := fits_Change hf
      have cE := c_szChange [.int .i64 n0, .str s1, .str s2] c hf ⟨hc0, hc1⟩
      have hb := szG_le sh_Change [.int .i64 n0, .str s1, .str s2] c hc0
      generalize szG sh_Change [.int .i64 n0, .str s1, .str s2] c = r at cE hb hr
      by_cases hneg : r < 0
      · rw [if_pos hneg] at hr
        rw [← hr]
        repeat ((try conv => whnf); first | (refine i_at gi ?_) | (refine ccA ([]) (cE) ?_) | (refine stpQ ?_))
        (refine ans_auto (by rfl) ?_ ?_ (by rfl)) <;> (repeat' (first | (exact eqA) | (refine And.intro ?_ ?_) | ((fail_if_success (with_reducible (show _ = _))); (show _ = _))))
      · rw [if_neg hneg] at hr
        repeat ((try conv => whnf); first | (refine i_at gi ?_) | (refine ccA ([]) (cE) ?_) | (refine stpQ ?_))
        refine ⟨(i + 1, r), ⟨⟨hlt, by show 0 ≤ r; omega, by show r ≤ 1048576; omega⟩, hr⟩, by show z.length - (i + 1) < z.length - i; omega, ?_⟩
        (refine le_auto (by rfl) ?_ ?_) <;> (repeat' (first | (exact eqA) | (refine And.intro ?_ ?_) | ((fail_if_success (with_reducible (show _ = _))); (show _ = _))))
    · obtain rfl : i = z.length := by omega
      rw [List.drop_length] at hr
      have hr2 : c = R := hr
      rw [← hr2]
      repeat ((try conv => whnf); first | (refine stpQ ?_))
      (refine ans_auto (by rfl) ?_ ?_ (by rfl)) <;> (repeat' (first | (exact eqA) | (refine And.intro ?_ ?_) | ((fail_if_success (with_reducible (show _ = _))); (show _ = _))))
set_option maxRecDepth 100000 in
set_option maxHeartbeats 2000000 in
theorem c_szServer (e : List T) (l : Int) (h : Fits maxLen sh_Server e) (hl : 0 ≤ l ∧ l ≤ 1048576) : CT Tryz.prog 78 [] [.agg e, .int .i64 l] (.int .i64 (szG sh_Server e l)) [] := by
  obtain ⟨n0, n1, b2, z3, n4, z5, z6, z7, n8, n9, n10, rfl, qn0, qn1, qb2, qz3, qn4, qz5, qz6, qz7, qn8, qn9, qn10, -⟩ := fits_Server h
  clear h
  obtain ⟨R, hR⟩ : ∃ R, R = szG sh_Server [.int .i64 n0, .int .i64 n1, .bool b2, .sl 3 z3, .int .i64 n4, .sl 1 z5, .sl 1 z6, .sl 3 z7, .int .i64 n8, .int .i64 n9, .int .i64 n10] l := ⟨_, rfl⟩
  rw [← hR]
  have k0 : ¬ l < 0 := by omega
  have k1 : ¬ l < 0 := by omega
  have k2 : ¬ l < 0 := by omega
  have u0 : 0 ≤ l ∧ l ≤ 1048576 := by omega
  have c0 := c_szDisk [.sl 3 z3] (l) (mk_Disk qz3) u0
  have d0 := szG_le sh_Disk [.sl 3 z3] (l) u0.1
  generalize g0 : szG sh_Disk [.sl 3 z3] (l) = r0 at c0 d0
  by_cases h0 : r0 < 0
  · have hE : R = -1 := hR.trans ((two_pos (r := l) (x := [.int .i64 n0]) (y := [.int .i64 n1, .bool b2, .sl 3 z3, .int .i64 n4, .sl 1 z5, .sl 1 z6, .sl 3 z7, .int .i64 n8, .int .i64 n9, .int .i64 n10]) rfl rfl k0).trans ((two_pos (r := l) (x := [.int .i64 n1]) (y := [.bool b2, .sl 3 z3, .int .i64 n4, .sl 1 z5, .sl 1 z6, .sl 3 z7, .int .i64 n8, .int .i64 n9, .int .i64 n10]) rfl rfl k1).trans ((two_pos (r := l) (x := [.bool b2]) (y := [.sl 3 z3, .int .i64 n4, .sl 1 z5, .sl 1 z6, .sl 3 z7, .int .i64 n8, .int .i64 n9, .int .i64 n10]) rfl rfl k2).trans (two_neg (x := [.sl 3 z3]) (y := [.int .i64 n4, .sl 1 z5, .sl 1 z6, .sl 3 z7, .int .i64 n8, .int .i64 n9, .int .i64 n10]) rfl g0 h0))))
    rw [hE]
    clear hR hE
    refine ct_intro ttE_ok 1 rfl Tryz.func78 rfl rfl rfl ?_
    repeat ((try conv => whnf); first | (refine ccA ([]) (c0) ?_) | (refine stpQ ?_))
    (refine ans_auto (by rfl) ?_ ?_ (by rfl)) <;> (repeat' (first | (exact eqA) | (refine And.intro ?_ ?_) | ((fail_if_success (with_reducible (show _ = _))); (show _ = _))))
  have k4 : ¬ r0 < 0 := by omega
  have u1 : 0 ≤ r0 ∧ r0 ≤ 1048576 := by omega
  have c1 := c_szLeafSS z5 (r0) qz5 u1
  have d1 := szG_le (.sl 1 (.sl 2 sh_Leaf)) [.sl 1 z5] (r0) u1.1
  generalize g1 : szG (.sl 1 (.sl 2 sh_Leaf)) [.sl 1 z5] (r0) = r1 at c1 d1
  by_cases h1 : r1 < 0
  · have hE : R = -1 := hR.trans ((two_pos (r := l) (x := [.int .i64 n0]) (y := [.int .i64 n1, .bool b2, .sl 3 z3, .int .i64 n4, .sl 1 z5, .sl 1 z6, .sl 3 z7, .int .i64 n8, .int .i64 n9, .int .i64 n10]) rfl rfl k0).trans ((two_pos (r := l) (x := [.int .i64 n1]) (y := [.bool b2, .sl 3 z3, .int .i64 n4, .sl 1 z5, .sl 1 z6, .sl 3 z7, .int .i64 n8, .int .i64 n9, .int .i64 n10]) rfl rfl k1).trans ((two_pos (r := l) (x := [.bool b2]) (y := [.sl 3 z3, .int .i64 n4, .sl 1 z5, .sl 1 z6, .sl 3 z7, .int .i64 n8, .int .i64 n9, .int .i64 n10]) rfl rfl k2).trans ((two_pos (x := [.sl 3 z3]) (y := [.int .i64 n4, .sl 1 z5, .sl 1 z6, .sl 3 z7, .int .i64 n8, .int .i64 n9, .int .i64 n10]) rfl g0 h0).trans ((two_pos (r := r0) (x := [.int .i64 n4]) (y := [.sl 1 z5, .sl 1 z6, .sl 3 z7, .int .i64 n8, .int .i64 n9, .int .i64 n10]) rfl rfl k4).trans (two_neg (x := [.sl 1 z5]) (y := [.sl 1 z6, .sl 3 z7, .int .i64 n8, .int .i64 n9, .int .i64 n10]) rfl g1 h1))))))
    rw [hE]
    clear hR hE
    refine ct_intro ttE_ok 1 rfl Tryz.func78 rfl rfl rfl ?_
    repeat ((try conv => whnf); first | (refine ccA ([]) (c0) ?_) | (refine ccA ([]) (c1) ?_) | (refine stpQ ?_))
    (refine ans_auto (by rfl) ?_ ?_ (by rfl)) <;> (repeat' (first | (exact eqA) | (refine And.intro ?_ ?_) | ((fail_if_success (with_reducible (show _ = _))); (show _ = _))))
  have u2 : 0 ≤ r1 ∧ r1 ≤ 1048576 := by omega
  have c2 := c_szIntS z6 (r1) qz6 u2
  have d2 := szG_le (.sl 1 .int) [.sl 1 z6] (r1) u2.1
  generalize g2 : szG (.sl 1 .int) [.sl 1 z6] (r1) = r2 at c2 d2
  by_cases h2 : r2 < 0
  · have hE : R = -1 := hR.trans ((two_pos (r := l) (x := [.int .i64 n0]) (y := [.int .i64 n1, .bool b2, .sl 3 z3, .int .i64 n4, .sl 1 z5, .sl 1 z6, .sl 3 z7, .int .i64 n8, .int .i64 n9, .int .i64 n10]) rfl rfl k0).trans ((two_pos (r := l) (x := [.int .i64 n1]) (y := [.bool b2, .sl 3 z3, .int .i64 n4, .sl 1 z5, .sl 1 z6, .sl 3 z7, .int .i64 n8, .int .i64 n9, .int .i64 n10]) rfl rfl k1).trans ((two_pos (r := l) (x := [.bool b2]) (y := [.sl 3 z3, .int .i64 n4, .sl 1 z5, .sl 1 z6, .sl 3 z7, .int .i64 n8, .int .i64 n9, .int .i64 n10]) rfl rfl k2).trans ((two_pos (x := [.sl 3 z3]) (y := [.int .i64 n4, .sl 1 z5, .sl 1 z6, .sl 3 z7, .int .i64 n8, .int .i64 n9, .int .i64 n10]) rfl g0 h0).trans ((two_pos (r := r0) (x := [.int .i64 n4]) (y := [.sl 1 z5, .sl 1 z6, .sl 3 z7, .int .i64 n8, .int .i64 n9, .int .i64 n10]) rfl rfl k4).trans ((two_pos (x := [.sl 1 z5]) (y := [.sl 1 z6, .sl 3 z7, .int .i64 n8, .int .i64 n9, .int .i64 n10]) rfl g1 h1).trans (two_neg (x := [.sl 1 z6]) (y := [.sl 3 z7, .int .i64 n8, .int .i64 n9, .int .i64 n10]) rfl g2 h2)))))))
    rw [hE]
    clear hR hE
    refine ct_intro ttE_ok 1 rfl Tryz.func78 rfl rfl rfl ?_
    repeat ((try conv => whnf); first | (refine ccA ([]) (c0) ?_) | (refine ccA ([]) (c1) ?_) | (refine ccA ([]) (c2) ?_) | (refine stpQ ?_))
    (refine ans_auto (by rfl) ?_ ?_ (by rfl)) <;> (repeat' (first | (exact eqA) | (refine And.intro ?_ ?_) | ((fail_if_success (with_reducible (show _ = _))); (show _ = _))))
  have u3 : 0 ≤ r2 ∧ r2 ≤ 1048576 := by omega
  have c3 := c_szChangeS z7 (r2) qz7 u3
  have d3 := szG_le (.sl 3 sh_Change) [.sl 3 z7] (r2) u3.1
  generalize g3 : szG (.sl 3 sh_Change) [.sl 3 z7] (r2) = r3 at c3 d3
  by_cases h3 : r3 < 0
  · have hE : R = -1 := hR.trans ((two_pos (r := l) (x := [.int .i64 n0]) (y := [.int .i64 n1, .bool b2, .sl 3 z3, .int .i64 n4, .sl 1 z5, .sl 1 z6, .sl 3 z7, .int .i64 n8, .int .i64 n9, .int .i64 n10]) rfl rfl k0).trans ((two_pos (r := l) (x := [.int .i64 n1]) (y := [.bool b2, .sl 3 z3, .int .i64 n4, .sl 1 z5, .sl 1 z6, .sl 3 z7, .int .i64 n8, .int .i64 n9, .int .i64 n10]) rfl rfl k1).trans ((two_pos (r := l) (x := [.bool b2]) (y := [.sl 3 z3, .int .i64 n4, .sl 1 z5, .sl 1 z6, .sl 3 z7, .int .i64 n8, .int .i64 n9, .int .i64 n10]) rfl rfl k2).trans ((two_pos (x := [.sl 3 z3]) (y := [.int .i64 n4, .sl 1 z5, .sl 1 z6, .sl 3 z7, .int .i64 n8, .int .i64 n9, .int .i64 n10]) rfl g0 h0).trans ((two_pos (r := r0) (x := [.int .i64 n4]) (y := [.sl 1 z5, .sl 1 z6, .sl 3 z7, .int .i64 n8, .int .i64 n9, .int .i64 n10]) rfl rfl k4).trans ((two_pos (x := [.sl 1 z5]) (y := [.sl 1 z6, .sl 3 z7, .int .i64 n8, .int .i64 n9, .int .i64 n10]) rfl g1 h1).trans ((two_pos (x := [.sl 1 z6]) (y := [.sl 3 z7, .int .i64 n8, .int .i64 n9, .int .i64 n10]) rfl g2 h2).trans (two_neg (x := [.sl 3 z7]) (y := [.int .i64 n8, .int .i64 n9, .int .i64 n10]) rfl g3 h3))))))))
    rw [hE]
    clear hR hE
    refine ct_intro ttE_ok 1 rfl Tryz.func78 rfl rfl rfl ?_
    repeat ((try conv => whnf); first | (refine ccA ([]) (c0) ?_) | (refine ccA ([]) (c1) ?_) | (refine ccA ([]) (c2) ?_) | (refine ccA ([]) (c3) ?_) | (refine stpQ ?_))
    (refine ans_auto (by rfl) ?_ ?_ (by rfl)) <;> (repeat' (first | (exact eqA) | (refine And.intro ?_ ?_) | ((fail_if_success (with_reducible (show _ = _))); (show _ = _))))
  have k8 : ¬ r3 < 0 := by omega
  have f8 : szG sh_Ready [.int .i64 n8, .int .i64 n9, .int .i64 n10] (r3) = r3 := by simp [szG, sh_Ready, k8]
  have hE : R = r3 := hR.trans ((two_pos (r := l) (x := [.int .i64 n0]) (y := [.int .i64 n1, .bool b2, .sl 3 z3, .int .i64 n4, .sl 1 z5, .sl 1 z6, .sl 3 z7, .int .i64 n8, .int .i64 n9, .int .i64 n10]) rfl rfl k0).trans ((two_pos (r := l) (x := [.int .i64 n1]) (y := [.bool b2, .sl 3 z3, .int .i64 n4, .sl 1 z5, .sl 1 z6, .sl 3 z7, .int .i64 n8, .int .i64 n9, .int .i64 n10]) rfl rfl k1).trans ((two_pos (r := l) (x := [.bool b2]) (y := [.sl 3 z3, .int .i64 n4, .sl 1 z5, .sl 1 z6, .sl 3 z7, .int .i64 n8, .int .i64 n9, .int .i64 n10]) rfl rfl k2).trans ((two_pos (x := [.sl 3 z3]) (y := [.int .i64 n4, .sl 1 z5, .sl 1 z6, .sl 3 z7, .int .i64 n8, .int .i64 n9, .int .i64 n10]) rfl g0 h0).trans ((two_pos (r := r0) (x := [.int .i64 n4]) (y := [.sl 1 z5, .sl 1 z6, .sl 3 z7, .int .i64 n8, .int .i64 n9, .int .i64 n10]) rfl rfl k4).trans ((two_pos (x := [.sl 1 z5]) (y := [.sl 1 z6, .sl 3 z7, .int .i64 n8, .int .i64 n9, .int .i64 n10]) rfl g1 h1).trans ((two_pos (x := [.sl 1 z6]) (y := [.sl 3 z7, .int .i64 n8, .int .i64 n9, .int .i64 n10]) rfl g2 h2).trans ((two_pos (x := [.sl 3 z7]) (y := [.int .i64 n8, .int .i64 n9, .int .i64 n10]) rfl g3 h3).trans ((two_pos (x := [.int .i64 n8, .int .i64 n9, .int .i64 n10]) (y := []) rfl f8 k8).trans (rfl))))))))))
  rw [hE]
  clear hR hE
  refine ct_intro ttE_ok 1 rfl Tryz.func78 rfl rfl rfl ?_
  repeat ((try conv => whnf); first | (refine ccA ([]) (c0) ?_) | (refine ccA ([]) (c1) ?_) | (refine ccA ([]) (c2) ?_) | (refine ccA ([]) (c3) ?_) | (refine stpQ ?_))
  (refine ans_auto (by rfl) ?_ ?_ (by rfl)) <;> (repeat' (first | (exact eqA) | (refine And.intro ?_ ?_) | ((fail_if_success (with_reducible (show _ = _))); (show _ = _))))
set_option maxRecDepth 100000 in
set_option maxHeartbeats 1000000 in
theorem c_szSealS (z : List (List T)) (l : Int) (h : z.length ≤ maxLen ∧ ∀ e ∈ z, Fits maxLen sh_Seal e) (hl : 0 ≤ l ∧ l ≤ 1048576) : CT Tryz.prog 58 [] [.sl 8 z, .int .i64 l] (.int .i64 (szG (.sl 8 sh_Seal) [.sl 8 z] l)) [] := by
  obtain ⟨hn, hz⟩ := h
  have hn2 : (z.length : Int) ≤ 9223372036854775807 := by unfold maxLen at hn; omega
  by_cases h0 : l - (z.length : Int) < 0
  · have e : szG (.sl 8 sh_Seal) [.sl 8 z] l = -1 := by simp [szG, lenT, h0]
    rw [e]
    refine ct_intro ttE_ok 1 rfl Tryz.func58 rfl rfl rfl ?_
    repeat ((try conv => whnf); first | (refine stpQ ?_))
    (refine ans_auto (by rfl) ?_ ?_ (by rfl)) <;> (repeat' (first | (exact eqA) | (refine And.intro ?_ ?_) | ((fail_if_success (with_reducible (show _ = _))); (show _ = _))))
  have e : szG (.sl 8 sh_Seal) [.sl 8 z] l = szL (szG sh_Seal) z (l - z.length) := by simp [szG, lenT, elsT, h0]
  rw [e]
  clear e
  generalize hR : szL (szG sh_Seal) z (l - z.length) = R
  refine ct_intro ttE_ok 1 rfl Tryz.func58 rfl rfl rfl ?_
  repeat ((try conv => whnf); first | (refine stpQ ?_))
  refine loop_of (Nat × Int) (fun x => ⟨[(0, .sl 8 z), (1, .int .i64 x.2), (5, .int .i64 (x.1 : Int))], [], 1⟩) (fun x => (x.1 ≤ z.length ∧ 0 ≤ x.2 ∧ x.2 ≤ 1048576) ∧ szL (szG sh_Seal) (z.drop x.1) x.2 = R) (fun x => z.length - x.1) (0, l - z.length) ⟨⟨Nat.zero_le _, by show (0 : Int) ≤ l - z.length; omega, by show l - z.length ≤ (1048576 : Int); omega⟩, hR⟩ ?_ ?_
  · (refine le_auto (by rfl) ?_ ?_) <;> (repeat' (first | (exact eqA) | (refine And.intro ?_ ?_) | ((fail_if_success (with_reducible (show _ = _))); (show _ = _)))) <;> first | rfl | decide
  · intro x hx
    obtain ⟨i, c⟩ := x
    have hi : i ≤ z.length := hx.1.1
    have hc0 : 0 ≤ c := hx.1.2.1
    have hc1 : c ≤ 1048576 := hx.1.2.2
    have hr : szL (szG sh_Seal) (z.drop i) c = R := hx.2
    clear hx hR
    by_cases hlt : i < z.length
    · have hi2 : (i : Int) < (z.length : Int) := by omega
      have hmem : z[i] ∈ z := List.getElem_mem hlt
      have gi : z[i]? = some z[i] := List.getElem?_eq_getElem hlt
      have hf := hz _ hmem
      rw [szL_drop gi] at hr
      generalize z[i] = e at hf gi hr
      obtain ⟨n0, n1, s2, s3, n4, z5, z6, z7, rfl, -⟩ := fits_Seal hf
      have cE := c_szSeal [.int .i64 n0, .int .i64 n1, .str s2, .str s3, .int .i64 n4, .sl 1 z5, .sl 1 z6, .sl 1 z7] c hf ⟨hc0, hc1⟩
      have hb := szG_le sh_Seal [.int .i64 n0, .int .i64 n1, .str s2, .str s3, .int .i64 n4, .sl 1 z5, .sl 1 z6, .sl 1 z7] c hc0
      generalize szG sh_Seal [.int .i64 n0, .int .i64 n1, .str s2, .str s3, .int .i64 n4, .sl 1 z5, .sl 1 z6, .sl 1 z7] c = r at cE hb hr
      by_cases hneg : r < 0
      · rw [if_pos hneg] at hr
        rw [← hr]
        repeat ((try conv => whnf); first | (refine i_at gi ?_) | (refine ccA ([]) (cE) ?_) | (refine stpQ ?_))
        (refine ans_auto (by rfl) ?_ ?_ (by rfl)) <;> (repeat' (first | (exact eqA) | (refine And.intro ?_ ?_) | ((fail_if_success (with_reducible (show _ = _))); (show _ = _))))
      · rw [if_neg hneg] at hr
        repeat ((try conv => whnf); first | (refine i_at gi ?_) | (refine ccA ([]) (cE) ?_) | (refine stpQ ?_))
        refine ⟨(i + 1, r), ⟨⟨hlt, by show 0 ≤ r; omega, by show r ≤ 1048576; omega⟩, hr⟩, by show z.length - (i + 1) < z.length - i; omega, ?_⟩
        (refine le_auto (by rfl) ?_ ?_) <;> (repeat' (first | (exact eqA) | (refine And.intro ?_ ?_) | ((fail_if_success (with_reducible (show _ = _))); (show _ = _))))
    · obtain rfl : i = z.length := by omega
      rw [List.drop_length] at hr
      have hr2 : c = R := hr
      rw [← hr2]
      repeat ((try conv => whnf); first | (refine stpQ ?_))
      (refine ans_auto (by rfl) ?_ ?_ (by rfl)) <;> (repeat' (first | (exact eqA) | (refine And.intro ?_ ?_) | ((fail_if_success (with_reducible (show _ = _))); (show _ = _))))
set_option maxRecDepth 100000 in
set_option maxHeartbeats 1000000 in
theorem c_szBoolS (z : List (List T)) (l : Int) (h : z.length ≤ maxLen ∧ ∀ e ∈ z, Fits maxLen .bool e) (hl : 0 ≤ l ∧ l ≤ 1048576) : CT Tryz.prog 13 [] [.sl 1 z, .int .i64 l] (.int .i64 (szG (.sl 1 .bool) [.sl 1 z] l)) [] := by
  obtain ⟨hn, hz⟩ := h
  have hn2 : (z.length : Int) ≤ 9223372036854775807 := by unfold maxLen at hn; omega
  by_cases h0 : l - (z.length : Int) < 0
  · have e : szG (.sl 1 .bool) [.sl 1 z] l = -1 := by simp [szG, lenT, h0]
    rw [e]
    refine ct_intro ttE_ok 1 rfl Tryz.func13 rfl rfl rfl ?_
    repeat ((try conv => whnf); first | (refine stpQ ?_))
    (refine ans_auto (by rfl) ?_ ?_ (by rfl)) <;> (repeat' (first | (exact eqA) | (refine And.intro ?_ ?_) | ((fail_if_success (with_reducible (show _ = _))); (show _ = _))))
  have e : szG (.sl 1 .bool) [.sl 1 z] l = szL (szG .bool) z (l - z.length) := by simp [szG, lenT, elsT, h0]
  rw [e]
  clear e
  have e := szL_same (g := szG .bool) (fun e l h => rfl) z (l - z.length) (by omega)
  rw [e]
  refine ct_intro ttE_ok 1 rfl Tryz.func13 rfl rfl rfl ?_
  repeat ((try conv => whnf); first | (refine stpQ ?_))
  (refine ans_auto (by rfl) ?_ ?_ (by rfl)) <;> (repeat' (first | (exact eqA) | (refine And.intro ?_ ?_) | ((fail_if_success (with_reducible (show _ = _))); (show _ = _))))
set_option maxRecDepth 100000 in
set_option maxHeartbeats 2000000 in
theorem c_szCoord (e : List T) (l : Int) (h : Fits maxLen sh_Coord e) (hl : 0 ≤ l ∧ l ≤ 1048576) : CT Tryz.prog 54 [] [.agg e, .int .i64 l] (.int .i64 (szG sh_Coord e l)) [] := by
  obtain ⟨n0, n1, b2, z3, z4, z5, z6, n7, b8, z9, z10, rfl, qn0, qn1, qb2, qz3, qz4, qz5, qz6, qn7, qb8, qz9, qz10, -⟩ := fits_Coord h
  clear h
  obtain ⟨R, hR⟩ : ∃ R, R = szG sh_Coord [.int .i64 n0, .int .i64 n1, .bool b2, .sl 3 z3, .sl 1 z4, .sl 8 z5, .sl 1 z6, .int .i64 n7, .bool b8, .sl 1 z9, .sl 1 z10] l := ⟨_, rfl⟩
  rw [← hR]
  have k0 : ¬ l < 0 := by omega
  have k1 : ¬ l < 0 := by omega
  have k2 : ¬ l < 0 := by omega
  have u0 : 0 ≤ l ∧ l ≤ 1048576 := by omega
  have c0 := c_szDisk [.sl 3 z3] (l) (mk_Disk qz3) u0
  have d0 := szG_le sh_Disk [.sl 3 z3] (l) u0.1
  generalize g0 : szG sh_Disk [.sl 3 z3] (l) = r0 at c0 d0
  by_cases h0 : r0 < 0
  · have hE : R = -1 := hR.trans ((two_pos (r := l) (x := [.int .i64 n0]) (y := [.int .i64 n1, .bool b2, .sl 3 z3, .sl 1 z4, .sl 8 z5, .sl 1 z6, .int .i64 n7, .bool b8, .sl 1 z9, .sl 1 z10]) rfl rfl k0).trans ((two_pos (r := l) (x := [.int .i64 n1]) (y := [.bool b2, .sl 3 z3, .sl 1 z4, .sl 8 z5, .sl 1 z6, .int .i64 n7, .bool b8, .sl 1 z9, .sl 1 z10]) rfl rfl k1).trans ((two_pos (r := l) (x := [.bool b2]) (y := [.sl 3 z3, .sl 1 z4, .sl 8 z5, .sl 1 z6, .int .i64 n7, .bool b8, .sl 1 z9, .sl 1 z10]) rfl rfl k2).trans (two_neg (x := [.sl 3 z3]) (y := [.sl 1 z4, .sl 8 z5, .sl 1 z6, .int .i64 n7, .bool b8, .sl 1 z9, .sl 1 z10]) rfl g0 h0))))
    rw [hE]
    clear hR hE
    refine ct_intro ttE_ok 1 rfl Tryz.func54 rfl rfl rfl ?_
    repeat ((try conv => whnf); first | (refine ccA ([]) (c0) ?_) | (refine stpQ ?_))
    (refine ans_auto (by rfl) ?_ ?_ (by rfl)) <;> (repeat' (first | (exact eqA) | (refine And.intro ?_ ?_) | ((fail_if_success (with_reducible (show _ = _))); (show _ = _))))
  have u1 : 0 ≤ r0 ∧ r0 ≤ 1048576 := by omega
  have c1 := c_szStringS z4 (r0) qz4 u1
  have d1 := szG_le (.sl 1 .str) [.sl 1 z4] (r0) u1.1
  generalize g1 : szG (.sl 1 .str) [.sl 1 z4] (r0) = r1 at c1 d1
  by_cases h1 : r1 < 0
  · have hE : R = -1 := hR.trans ((two_pos (r := l) (x := [.int .i64 n0]) (y := [.int .i64 n1, .bool b2, .sl 3 z3, .sl 1 z4, .sl 8 z5, .sl 1 z6, .int .i64 n7, .bool b8, .sl 1 z9, .sl 1 z10]) rfl rfl k0).trans ((two_pos (r := l) (x := [.int .i64 n1]) (y := [.bool b2, .sl 3 z3, .sl 1 z4, .sl 8 z5, .sl 1 z6, .int .i64 n7, .bool b8, .sl 1 z9, .sl 1 z10]) rfl rfl k1).trans ((two_pos (r := l) (x := [.bool b2]) (y := [.sl 3 z3, .sl 1 z4, .sl 8 z5, .sl 1 z6, .int .i64 n7, .bool b8, .sl 1 z9, .sl 1 z10]) rfl rfl k2).trans ((two_pos (x := [.sl 3 z3]) (y := [.sl 1 z4, .sl 8 z5, .sl 1 z6, .int .i64 n7, .bool b8, .sl 1 z9, .sl 1 z10]) rfl g0 h0).trans (two_neg (x := [.sl 1 z4]) (y := [.sl 8 z5, .sl 1 z6, .int .i64 n7, .bool b8, .sl 1 z9, .sl 1 z10]) rfl g1 h1)))))
    rw [hE]
    clear hR hE
    refine ct_intro ttE_ok 1 rfl Tryz.func54 rfl rfl rfl ?_
    repeat ((try conv => whnf); first | (refine ccA ([]) (c0) ?_) | (refine ccA ([]) (c1) ?_) | (refine stpQ ?_))
    (refine ans_auto (by rfl) ?_ ?_ (by rfl)) <;> (repeat' (first | (exact eqA) | (refine And.intro ?_ ?_) | ((fail_if_success (with_reducible (show _ = _))); (show _ = _))))
  have u2 : 0 ≤ r1 ∧ r1 ≤ 1048576 := by omega
  have c2 := c_szSealS z5 (r1) qz5 u2
  have d2 := szG_le (.sl 8 sh_Seal) [.sl 8 z5] (r1) u2.1
  generalize g2 : szG (.sl 8 sh_Seal) [.sl 8 z5] (r1) = r2 at c2 d2
  by_cases h2 : r2 < 0
  · have hE : R = -1 := hR.trans ((two_pos (r := l) (x := [.int .i64 n0]) (y := [.int .i64 n1, .bool b2, .sl 3 z3, .sl 1 z4, .sl 8 z5, .sl 1 z6, .int .i64 n7, .bool b8, .sl 1 z9, .sl 1 z10]) rfl rfl k0).trans ((two_pos (r := l) (x := [.int .i64 n1]) (y := [.bool b2, .sl 3 z3, .sl 1 z4, .sl 8 z5, .sl 1 z6, .int .i64 n7, .bool b8, .sl 1 z9, .sl 1 z10]) rfl rfl k1).trans ((two_pos (r := l) (x := [.bool b2]) (y := [.sl 3 z3, .sl 1 z4, .sl 8 z5, .sl 1 z6, .int .i64 n7, .bool b8, .sl 1 z9, .sl 1 z10]) rfl rfl k2).trans ((two_pos (x := [.sl 3 z3]) (y := [.sl 1 z4, .sl 8 z5, .sl 1 z6, .int .i64 n7, .bool b8, .sl 1 z9, .sl 1 z10]) rfl g0 h0).trans ((two_pos (x := [.sl 1 z4]) (y := [.sl 8 z5, .sl 1 z6, .int .i64 n7, .bool b8, .sl 1 z9, .sl 1 z10]) rfl g1 h1).trans (two_neg (x := [.sl 8 z5]) (y := [.sl 1 z6, .int .i64 n7, .bool b8, .sl 1 z9, .sl 1 z10]) rfl g2 h2))))))
    rw [hE]
    clear hR hE
    refine ct_intro ttE_ok 1 rfl Tryz.func54 rfl rfl rfl ?_
    repeat ((try conv => whnf); first | (refine ccA ([]) (c0) ?_) | (refine ccA ([]) (c1) ?_) | (refine ccA ([]) (c2) ?_) | (refine stpQ ?_))
    (refine ans_auto (by rfl) ?_ ?_ (by rfl)) <;> (repeat' (first | (exact eqA) | (refine And.intro ?_ ?_) | ((fail_if_success (with_reducible (show _ = _))); (show _ = _))))
  have u3 : 0 ≤ r2 ∧ r2 ≤ 1048576 := by omega
  have c3 := c_szIntS z6 (r2) qz6 u3
  have d3 := szG_le (.sl 1 .int) [.sl 1 z6] (r2) u3.1
  generalize g3 : szG (.sl 1 .int) [.sl 1 z6] (r2) = r3 at c3 d3
  by_cases h3 : r3 < 0
  · have hE : R = -1 := hR.trans ((two_pos (r := l) (x := [.int .i64 n0]) (y := [.int .i64 n1, .bool b2, .sl 3 z3, .sl 1 z4, .sl 8 z5, .sl 1 z6, .int .i64 n7, .bool b8, .sl 1 z9, .sl 1 z10]) rfl rfl k0).trans ((two_pos (r := l) (x := [.int .i64 n1]) (y := [.bool b2, .sl 3 z3, .sl 1 z4, .sl 8 z5, .sl 1 z6, .int .i64 n7, .bool b8, .sl 1 z9, .sl 1 z10]) rfl rfl k1).trans ((two_pos (r := l) (x := [.bool b2]) (y := [.sl 3 z3, .sl 1 z4, .sl 8 z5, .sl 1 z6, .int .i64 n7, .bool b8, .sl 1 z9, .sl 1 z10]) rfl rfl k2).trans ((two_pos (x := [.sl 3 z3]) (y := [.sl 1 z4, .sl 8 z5, .sl 1 z6, .int .i64 n7, .bool b8, .sl 1 z9, .sl 1 z10]) rfl g0 h0).trans ((two_pos (x := [.sl 1 z4]) (y := [.sl 8 z5, .sl 1 z6, .int .i64 n7, .bool b8, .sl 1 z9, .sl 1 z10]) rfl g1 h1).trans ((two_pos (x := [.sl 8 z5]) (y := [.sl 1 z6, .int .i64 n7, .bool b8, .sl 1 z9, .sl 1 z10]) rfl g2 h2).trans (two_neg (x := [.sl 1 z6]) (y := [.int .i64 n7, .bool b8, .sl 1 z9, .sl 1 z10]) rfl g3 h3)))))))
    rw [hE]
    clear hR hE
    refine ct_intro ttE_ok 1 rfl Tryz.func54 rfl rfl rfl ?_
    repeat ((try conv => whnf); first | (refine ccA ([]) (c0) ?_) | (refine ccA ([]) (c1) ?_) | (refine ccA ([]) (c2) ?_) | (refine ccA ([]) (c3) ?_) | (refine stpQ ?_))
    (refine ans_auto (by rfl) ?_ ?_ (by rfl)) <;> (repeat' (first | (exact eqA) | (refine And.intro ?_ ?_) | ((fail_if_success (with_reducible (show _ = _))); (show _ = _))))
  have k7 : ¬ r3 < 0 := by omega
  have k8 : ¬ r3 < 0 := by omega
  have u4 : 0 ≤ r3 ∧ r3 ≤ 1048576 := by omega
  have c4 := c_szStringS z9 (r3) qz9 u4
  have d4 := szG_le (.sl 1 .str) [.sl 1 z9] (r3) u4.1
  generalize g4 : szG (.sl 1 .str) [.sl 1 z9] (r3) = r4 at c4 d4
  by_cases h4 : r4 < 0
  · have hE : R = -1 := hR.trans ((two_pos (r := l) (x := [.int .i64 n0]) (y := [.int .i64 n1, .bool b2, .sl 3 z3, .sl 1 z4, .sl 8 z5, .sl 1 z6, .int .i64 n7, .bool b8, .sl 1 z9, .sl 1 z10]) rfl rfl k0).trans ((two_pos (r := l) (x := [.int .i64 n1]) (y := [.bool b2, .sl 3 z3, .sl 1 z4, .sl 8 z5, .sl 1 z6, .int .i64 n7, .bool b8, .sl 1 z9, .sl 1 z10]) rfl rfl k1).trans ((two_pos (r := l) (x := [.bool b2]) (y := [.sl 3 z3, .sl 1 z4, .sl 8 z5, .sl 1 z6, .int .i64 n7, .bool b8, .sl 1 z9, .sl 1 z10]) rfl rfl k2).trans ((two_pos (x := [.sl 3 z3]) (y := [.sl 1 z4, .sl 8 z5, .sl 1 z6, .int .i64 n7, .bool b8, .sl 1 z9, .sl 1 z10]) rfl g0 h0).trans ((two_pos (x := [.sl 1 z4]) (y := [.sl 8 z5, .sl 1 z6, .int .i64 n7, .bool b8, .sl 1 z9, .sl 1 z10]) rfl g1 h1).trans ((two_pos (x := [.sl 8 z5]) (y := [.sl 1 z6, .int .i64 n7, .bool b8, .sl 1 z9, .sl 1 z10]) rfl g2 h2).trans ((two_pos (x := [.sl 1 z6]) (y := [.int .i64 n7, .bool b8, .sl 1 z9, .sl 1 z10]) rfl g3 h3).trans ((two_pos (r := r3) (x := [.int .i64 n7]) (y := [.bool b8, .sl 1 z9, .sl 1 z10]) rfl rfl k7).trans ((two_pos (r := r3) (x := [.bool b8]) (y := [.sl 1 z9, .sl 1 z10]) rfl rfl k8).trans (two_neg (x := [.sl 1 z9]) (y := [.sl 1 z10]) rfl g4 h4))))))))))
    rw [hE]
    clear hR hE
    refine ct_intro ttE_ok 1 rfl Tryz.func54 rfl rfl rfl ?_
    repeat ((try conv => whnf); first | (refine ccA ([]) (c0) ?_) | (refine ccA ([]) (c1) ?_) | (refine ccA ([]) (c2) ?_) | (refine ccA ([]) (c3) ?_) | (refine ccA ([]) (c4) ?_) | (refine stpQ ?_))
    (refine ans_auto (by rfl) ?_ ?_ (by rfl)) <;> (repeat' (first | (exact eqA) | (refine And.intro ?_ ?_) | ((fail_if_success (with_reducible (show _ = _))); (show _ = _))))
  have u5 : 0 ≤ r4 ∧ r4 ≤ 1048576 := by omega
  have c5 := c_szBoolS z10 (r4) qz10 u5
  have d5 := szG_le (.sl 1 .bool) [.sl 1 z10] (r4) u5.1
  generalize g5 : szG (.sl 1 .bool) [.sl 1 z10] (r4) = r5 at c5 d5
  by_cases h5 : r5 < 0
  · have hE : R = -1 := hR.trans ((two_pos (r := l) (x := [.int .i64 n0]) (y := [.int .i64 n1, .bool b2, .sl 3 z3, .sl 1 z4, .sl 8 z5, .sl 1 z6, .int .i64 n7, .bool b8, .sl 1 z9, .sl 1 z10]) rfl rfl k0).trans ((two_pos (r := l) (x := [.int .i64 n1]) (y := [.bool b2, .sl 3 z3, .sl 1 z4, .sl 8 z5, .sl 1 z6, .int .i64 n7, .bool b8, .sl 1 z9, .sl 1 z10]) rfl rfl k1).trans ((two_pos (r := l) (x := [.bool b2]) (y := [.sl 3 z3, .sl 1 z4, .sl 8 z5, .sl 1 z6, .int .i64 n7, .bool b8, .sl 1 z9, .sl 1 z10]) rfl rfl k2).trans ((two_pos (x := [.sl 3 z3]) (y := [.sl 1 z4, .sl 8 z5, .sl 1 z6, .int .i64 n7, .bool b8, .sl 1 z9, .sl 1 z10]) rfl g0 h0).trans ((two_pos (x := [.sl 1 z4]) (y := [.sl 8 z5, .sl 1 z6, .int .i64 n7, .bool b8, .sl 1 z9, .sl 1 z10]) rfl g1 h1).trans ((two_pos (x := [.sl 8 z5]) (y := [.sl 1 z6, .int .i64 n7, .bool b8, .sl 1 z9, .sl 1 z10]) rfl g2 h2).trans ((two_pos (x := [.sl 1 z6]) (y := [.int .i64 n7, .bool b8, .sl 1 z9, .sl 1 z10]) rfl g3 h3).trans ((two_pos (r := r3) (x := [.int .i64 n7]) (y := [.bool b8, .sl 1 z9, .sl 1 z10]) rfl rfl k7).trans ((two_pos (r := r3) (x := [.bool b8]) (y := [.sl 1 z9, .sl 1 z10]) rfl rfl k8).trans ((two_pos (x := [.sl 1 z9]) (y := [.sl 1 z10]) rfl g4 h4).trans (two_neg (x := [.sl 1 z10]) (y := []) rfl g5 h5)))))))))))
    rw [hE]
    clear hR hE
    refine ct_intro ttE_ok 1 rfl Tryz.func54 rfl rfl rfl ?_
    repeat ((try conv => whnf); first | (refine ccA ([]) (c0) ?_) | (refine ccA ([]) (c1) ?_) | (refine ccA ([]) (c2) ?_) | (refine ccA ([]) (c3) ?_) | (refine ccA ([]) (c4) ?_) | (refine ccA ([]) (c5) ?_) | (refine stpQ ?_))
    (refine ans_auto (by rfl) ?_ ?_ (by rfl)) <;> (repeat' (first | (exact eqA) | (refine And.intro ?_ ?_) | ((fail_if_success (with_reducible (show _ = _))); (show _ = _))))
  have hE : R = r5 := hR.trans ((two_pos (r := l) (x := [.int .i64 n0]) (y := [.int .i64 n1, .bool b2, .sl 3 z3, .sl 1 z4, .sl 8 z5, .sl 1 z6, .int .i64 n7, .bool b8, .sl 1 z9, .sl 1 z10]) rfl rfl k0).trans ((two_pos (r := l) (x := [.int .i64 n1]) (y := [.bool b2, .sl 3 z3, .sl 1 z4, .sl 8 z5, .sl 1 z6, .int .i64 n7, .bool b8, .sl 1 z9, .sl 1 z10]) rfl rfl k1).trans ((two_pos (r := l) (x := [.bool b2]) (y := [.sl 3 z3, .sl 1 z4, .sl 8 z5, .sl 1 z6, .int .i64 n7, .bool b8, .sl 1 z9, .sl 1 z10]) rfl rfl k2).trans ((two_pos (x := [.sl 3 z3]) (y := [.sl 1 z4, .sl 8 z5, .sl 1 z6, .int .i64 n7, .bool b8, .sl 1 z9, .sl 1 z10]) rfl g0 h0).trans ((two_pos (x := [.sl 1 z4]) (y := [.sl 8 z5, .sl 1 z6, .int .i64 n7, .bool b8, .sl 1 z9, .sl 1 z10]) rfl g1 h1).trans ((two_pos (x := [.sl 8 z5]) (y := [.sl 1 z6, .int .i64 n7, .bool b8, .sl 1 z9, .sl 1 z10]) rfl g2 h2).trans ((two_pos (x := [.sl 1 z6]) (y := [.int .i64 n7, .bool b8, .sl 1 z9, .sl 1 z10]) rfl g3 h3).trans ((two_pos (r := r3) (x := [.int .i64 n7]) (y := [.bool b8, .sl 1 z9, .sl 1 z10]) rfl rfl k7).trans ((two_pos (r := r3) (x := [.bool b8]) (y := [.sl 1 z9, .sl 1 z10]) rfl rfl k8).trans ((two_pos (x := [.sl 1 z9]) (y := [.sl 1 z10]) rfl g4 h4).trans ((two_pos (x := [.sl 1 z10]) (y := []) rfl g5 h5).trans (rfl))))))))))))
  rw [hE]
  clear hR hE
  refine ct_intro ttE_ok 1 rfl Tryz.func54 rfl rfl rfl ?_
  repeat ((try conv => whnf); first | (refine ccA ([]) (c0) ?_) | (refine ccA ([]) (c1) ?_) | (refine ccA ([]) (c2) ?_) | (refine ccA ([]) (c3) ?_) | (refine ccA ([]) (c4) ?_) | (refine ccA ([]) (c5) ?_) | (refine stpQ ?_))
  (refine ans_auto (by rfl) ?_ ?_ (by rfl)) <;> (repeat' (first | (exact eqA) | (refine And.intro ?_ ?_) | ((fail_if_success (with_reducible (show _ = _))); (show _ = _))))
set_option maxRecDepth 100000 in
set_option maxHeartbeats 1000000 in
theorem c_szServerS (z : List (List T)) (l : Int) (h : z.length ≤ maxLen ∧ ∀ e ∈ z, Fits maxLen sh_Server e) (hl : 0 ≤ l ∧ l ≤ 1048576) : CT Tryz.prog 55 [] [.sl 11 z, .int .i64 l] (.int .i64 (szG (.sl 11 sh_Server) [.sl 11 z] l)) [] := by
  obtain ⟨hn, hz⟩ := h
  have hn2 : (z.length : Int) ≤ 9223372036854775807 := by unfold maxLen at hn; omega
  by_cases h0 : l - (z.length : Int) < 0
  · have e : szG (.sl 11 sh_Server) [.sl 11 z] l = -1 := by simp [szG, lenT, h0]
    rw [e]
    refine ct_intro ttE_ok 1 rfl Tryz.func55 rfl rfl rfl ?_
    repeat ((try conv => whnf); first | (refine stpQ ?_))
    (refine ans_auto (by rfl) ?_ ?_ (by rfl)) <;> (repeat' (first | (exact eqA) | (refine And.intro ?_ ?_) | ((fail_if_success (with_reducible (show _ = _))); (show _ = _))))
  have e : szG (.sl 11 sh_Server) [.sl 11 z] l = szL (szG sh_Server) z (l - z.length) := by simp [szG, lenT, elsT, h0]
  rw [e]
  clear e
  generalize hR : szL (szG sh_Server) z (l - z.length) = R
  refine ct_intro ttE_ok 1 rfl Tryz.func55 rfl rfl rfl ?_
  repeat ((try conv => whnf); first | (refine stpQ ?_))
  refine loop_of (Nat × Int) (fun x => ⟨[(0, .sl 11 z), (1, .int .i64 x.2), (5, .int .i64 (x.1 : Int))], [], 1⟩) (fun x => (x.1 ≤ z.length ∧ 0 ≤ x.2 ∧ x.2 ≤ 1048576) ∧ szL (szG sh_Server) (z.drop x.1) x.2 = R) (fun x => z.length - x.1) (0, l - z.length) ⟨⟨Nat.zero_le _, by show (0 : Int) ≤ l - z.length; omega, by show l - z.length ≤ (1048576 : Int); omega⟩, hR⟩ ?_ ?_
  · (refine le_auto (by rfl) ?_ ?_) <;> (repeat' (first | (exact eqA) | (refine And.intro ?_ ?_) | ((fail_if_success (with_reducible (show _ = _))); (show _ = _)))) <;> first | rfl | decide
  · intro x hx
    obtain ⟨i, c⟩ := x
    have hi : i ≤ z.length := hx.1.1
    have hc0 : 0 ≤ c := hx.1.2.1
    have hc1 : c ≤ 1048576 := hx.1.2.2
    have hr : szL (szG sh_Server) (z.drop i) c = R := hx.2
    clear hx hR
    by_cases hlt : i < z.length
    · have hi2 : (i : Int) < (z.length : Int) := by omega
      have hmem : z[i] ∈ z := List.getElem_mem hlt
      have gi : z[i]? = some z[i] := List.getElem?_eq_getElem hlt
      have hf := hz _ hmem
      rw [szL_drop gi] at hr
      generalize z[i] = e at hf gi hr
      obtain ⟨n0, n1, b2, z3, n4, z5, z6, z7, n8, n9, n10, rfl, -⟩ := fits_Server hf
      have cE := c_szServer [.int .i64 n0, .int .i64 n1, .bool b2, .sl 3 z3, .int .i64 n4, .sl 1 z5, .sl 1 z6, .sl 3 z7, .int .i64 n8, .int .i64 n9, .int .i64 n10] c hf ⟨hc0, hc1⟩
      have hb := szG_le sh_Server [.int .i64 n0, .int .i64 n1, .bool b2, .sl 3 z3, .int .i64 n4, .sl 1 z5, .sl 1 z6, .sl 3 z7, .int .i64 n8, .int .i64 n9, .int .i64 n10] c hc0
      generalize szG sh_Server [.int .i64 n0, .int .i64 n1, .bool b2, .sl 3 z3, .int .i64 n4, .sl 1 z5, .sl 1 z6, .sl 3 z7, .int .i64 n8, .int .i64 n9, .int .i64 n10] c = r at cE hb hr
      by_cases hneg : r < 0
      · rw [if_pos hneg] at hr
        rw [← hr]
        repeat ((try conv => whnf); first | (refine i_at gi ?_) | (refine ccA ([]) (cE) ?_) | (refine stpQ ?_))
        (refine ans_auto (by rfl) ?_ ?_ (by rfl)) <;> (repeat' (first | (exact eqA) | (refine And.intro ?_ ?_) | ((fail_if_success (with_reducible (show _ = _))); (show _ = _))))
      · rw [if_neg hneg] at hr
        repeat ((try conv => whnf); first | (refine i_at gi ?_) | (refine ccA ([]) (cE) ?_) | (refine stpQ ?_))
        refine ⟨(i + 1, r), ⟨⟨hlt, by show 0 ≤ r; omega, by show r ≤ 1048576; omega⟩, hr⟩, by show z.length - (i + 1) < z.length - i; omega, ?_⟩
        (refine le_auto (by rfl) ?_ ?_) <;> (repeat' (first | (exact eqA) | (refine And.intro ?_ ?_) | ((fail_if_success (with_reducible (show _ = _))); (show _ = _))))
    · obtain rfl : i = z.length := by omega
      rw [List.drop_length] at hr
      have hr2 : c = R := hr
      rw [← hr2]
      repeat ((try conv => whnf); first | (refine stpQ ?_))
      (refine ans_auto (by rfl) ?_ ?_ (by rfl)) <;> (repeat' (first | (exact eqA) | (refine And.intro ?_ ?_) | ((fail_if_success (with_reducible (show _ = _))); (show _ = _))))
set_option maxRecDepth 100000 in
set_option maxHeartbeats 2000000 in
theorem c_szHouse (e : List T) (l : Int) (h : Fits maxLen sh_House e) (hl : 0 ≤ l ∧ l ≤ 1048576) : CT Tryz.prog 33 [] [.agg e, .int .i64 l] (.int .i64 (szG sh_House e l)) [] := by
  obtain ⟨n0, n1, b2, z3, z4, z5, z6, n7, b8, z9, z10, z11, z12, z13, rfl, qn0, qn1, qb2, qz3, qz4, qz5, qz6, qn7, qb8, qz9, qz10, qz11, qz12, qz13, -⟩ := fits_House h
  clear h
  obtain ⟨R, hR⟩ : ∃ R, R = szG sh_House [.int .i64 n0, .int .i64 n1, .bool b2, .sl 3 z3, .sl 1 z4, .sl 8 z5, .sl 1 z6, .int .i64 n7, .bool b8, .sl 1 z9, .sl 1 z10, .sl 11 z11, .sl 1 z12, .sl 1 z13] l := ⟨_, rfl⟩
  rw [← hR]
  have u0 : 0 ≤ l ∧ l ≤ 1048576 := by omega
  have c0 := c_szCoord [.int .i64 n0, .int .i64 n1, .bool b2, .sl 3 z3, .sl 1 z4, .sl 8 z5, .sl 1 z6, .int .i64 n7, .bool b8, .sl 1 z9, .sl 1 z10] (l) (mk_Coord qn0 qn1 qb2 qz3 qz4 qz5 qz6 qn7 qb8 qz9 qz10) u0
  have d0 := szG_le sh_Coord [.int .i64 n0, .int .i64 n1, .bool b2, .sl 3 z3, .sl 1 z4, .sl 8 z5, .sl 1 z6, .int .i64 n7, .bool b8, .sl 1 z9, .sl 1 z10] (l) u0.1
  generalize g0 : szG sh_Coord [.int .i64 n0, .int .i64 n1, .bool b2, .sl 3 z3, .sl 1 z4, .sl 8 z5, .sl 1 z6, .int .i64 n7, .bool b8, .sl 1 z9, .sl 1 z10] (l) = r0 at c0 d0
  by_cases h0 : r0 < 0
  · have hE : R = -1 := hR.trans (two_neg (x := [.int .i64 n0, .int .i64 n1, .bool b2, .sl 3 z3, .sl 1 z4, .sl 8 z5, .sl 1 z6, .int .i64 n7, .bool b8, .sl 1 z9, .sl 1 z10]) (y := [.sl 11 z11, .sl 1 z12, .sl 1 z13]) rfl g0 h0)
    rw [hE]
    clear hR hE
    refine ct_intro ttE_ok 1 rfl Tryz.func33 rfl rfl rfl ?_
    repeat ((try conv => whnf); first | (refine ccA ([]) (c0) ?_) | (refine stpQ ?_))
    (refine ans_auto (by rfl) ?_ ?_ (by rfl)) <;> (repeat' (first | (exact eqA) | (refine And.intro ?_ ?_) | ((fail_if_success (with_reducible (show _ = _))); (show _ = _))))
  have u1 : 0 ≤ r0 ∧ r0 ≤ 1048576 := by omega
  have c1 := c_szServerS z11 (r0) qz11 u1
  have d1 := szG_le (.sl 11 sh_Server) [.sl 11 z11] (r0) u1.1
  generalize g1 : szG (.sl 11 sh_Server) [.sl 11 z11] (r0) = r1 at c1 d1
  by_cases h1 : r1 < 0
  · have hE : R = -1 := hR.trans ((two_pos (x := [.int .i64 n0, .int .i64 n1, .bool b2, .sl 3 z3, .sl 1 z4, .sl 8 z5, .sl 1 z6, .int .i64 n7, .bool b8, .sl 1 z9, .sl 1 z10]) (y := [.sl 11 z11, .sl 1 z12, .sl 1 z13]) rfl g0 h0).trans (two_neg (x := [.sl 11 z11]) (y := [.sl 1 z12, .sl 1 z13]) rfl g1 h1))
    rw [hE]
    clear hR hE
    refine ct_intro ttE_ok 1 rfl Tryz.func33 rfl rfl rfl ?_
    repeat ((try conv => whnf); first | (refine ccA ([]) (c0) ?_) | (refine ccA ([]) (c1) ?_) | (refine stpQ ?_))
    (refine ans_auto (by rfl) ?_ ?_ (by rfl)) <;> (repeat' (first | (exact eqA) | (refine And.intro ?_ ?_) | ((fail_if_success (with_reducible (show _ = _))); (show _ = _))))
  have u2 : 0 ≤ r1 ∧ r1 ≤ 1048576 := by omega
  have c2 := c_szStringS z12 (r1) qz12 u2
  have d2 := szG_le (.sl 1 .str) [.sl 1 z12] (r1) u2.1
  generalize g2 : szG (.sl 1 .str) [.sl 1 z12] (r1) = r2 at c2 d2
  by_cases h2 : r2 < 0
  · have hE : R = -1 := hR.trans ((two_pos (x := [.int .i64 n0, .int .i64 n1, .bool b2, .sl 3 z3, .sl 1 z4, .sl 8 z5, .sl 1 z6, .int .i64 n7, .bool b8, .sl 1 z9, .sl 1 z10]) (y := [.sl 11 z11, .sl 1 z12, .sl 1 z13]) rfl g0 h0).trans ((two_pos (x := [.sl 11 z11]) (y := [.sl 1 z12, .sl 1 z13]) rfl g1 h1).trans (two_neg (x := [.sl 1 z12]) (y := [.sl 1 z13]) rfl g2 h2)))
    rw [hE]
    clear hR hE
    refine ct_intro ttE_ok 1 rfl Tryz.func33 rfl rfl rfl ?_
    repeat ((try conv => whnf); first | (refine ccA ([]) (c0) ?_) | (refine ccA ([]) (c1) ?_) | (refine ccA ([]) (c2) ?_) | (refine stpQ ?_))
    (refine ans_auto (by rfl) ?_ ?_ (by rfl)) <;> (repeat' (first | (exact eqA) | (refine And.intro ?_ ?_) | ((fail_if_success (with_reducible (show _ = _))); (show _ = _))))
  have u3 : 0 ≤ r2 ∧ r2 ≤ 1048576 := by omega
  have c3 := c_szIntS z13 (r2) qz13 u3
  have d3 := szG_le (.sl 1 .int) [.sl 1 z13] (r2) u3.1
  generalize g3 : szG (.sl 1 .int) [.sl 1 z13] (r2) = r3 at c3 d3
  by_cases h3 : r3 < 0
  · have hE : R = -1 := hR.trans ((two_pos (x := [.int .i64 n0, .int .i64 n1, .bool b2, .sl 3 z3, .sl 1 z4, .sl 8 z5, .sl 1 z6, .int .i64 n7, .bool b8, .sl 1 z9, .sl 1 z10]) (y := [.sl 11 z11, .sl 1 z12, .sl 1 z13]) rfl g0 h0).trans ((two_pos (x := [.sl 11 z11]) (y := [.sl 1 z12, .sl 1 z13]) rfl g1 h1).trans ((two_pos (x := [.sl 1 z12]) (y := [.sl 1 z13]) rfl g2 h2).trans (two_neg (x := [.sl 1 z13]) (y := []) rfl g3 h3))))
    rw [hE]
    clear hR hE
    refine ct_intro ttE_ok 1 rfl Tryz.func33 rfl rfl rfl ?_
    repeat ((try conv => whnf); first | (refine ccA ([]) (c0) ?_) | (refine ccA ([]) (c1) ?_) | (refine ccA ([]) (c2) ?_) | (refine ccA ([]) (c3) ?_) | (refine stpQ ?_))
    (refine ans_auto (by rfl) ?_ ?_ (by rfl)) <;> (repeat' (first | (exact eqA) | (refine And.intro ?_ ?_) | ((fail_if_success (with_reducible (show _ = _))); (show _ = _))))
  have hE : R = r3 := hR.trans ((two_pos (x := [.int .i64 n0, .int .i64 n1, .bool b2, .sl 3 z3, .sl 1 z4, .sl 8 z5, .sl 1 z6, .int .i64 n7, .bool b8, .sl 1 z9, .sl 1 z10]) (y := [.sl 11 z11, .sl 1 z12, .sl 1 z13]) rfl g0 h0).trans ((two_pos (x := [.sl 11 z11]) (y := [.sl 1 z12, .sl 1 z13]) rfl g1 h1).trans ((two_pos (x := [.sl 1 z12]) (y := [.sl 1 z13]) rfl g2 h2).trans ((two_pos (x := [.sl 1 z13]) (y := []) rfl g3 h3).trans (rfl)))))
  rw [hE]
  clear hR hE
  refine ct_intro ttE_ok 1 rfl Tryz.func33 rfl rfl rfl ?_
  repeat ((try conv => whnf); first | (refine ccA ([]) (c0) ?_) | (refine ccA ([]) (c1) ?_) | (refine ccA ([]) (c2) ?_) | (refine ccA ([]) (c3) ?_) | (refine stpQ ?_))
  (refine ans_auto (by rfl) ?_ ?_ (by rfl)) <;> (repeat' (first | (exact eqA) | (refine And.intro ?_ ?_) | ((fail_if_success (with_reducible (show _ = _))); (show _ = _))))
set_option maxRecDepth 100000 in
set_option maxHeartbeats 1000000 in
theorem c_szPairS (z : List (List T)) (l : Int) (h : z.length ≤ maxLen ∧ ∀ e ∈ z, Fits maxLen sh_Pair e) (hl : 0 ≤ l ∧ l ≤ 1048576) : CT Tryz.prog 59 [] [.sl 16 z, .int .i64 l] (.int .i64 (szG (.sl 16 sh_Pair) [.sl 16 z] l)) [] := by
  obtain ⟨hn, hz⟩ := h
  have hn2 : (z.length : Int) ≤ 9223372036854775807 := by unfold maxLen at hn; omega
  by_cases h0 : l - (z.length : Int) < 0
  · have e : szG (.sl 16 sh_Pair) [.sl 16 z] l = -1 := by simp [szG, lenT, h0]
    rw [e]
    refine ct_intro ttE_ok 1 rfl Tryz.func59 rfl rfl rfl ?_
    repeat ((try conv => whnf); first | (refine stpQ ?_))
    (refine ans_auto (by rfl) ?_ ?_ (by rfl)) <;> (repeat' (first | (exact eqA) | (refine And.intro ?_ ?_) | ((fail_if_success (with_reducible (show _ = _))); (show _ = _))))
  have e : szG (.sl 16 sh_Pair) [.sl 16 z] l = szL (szG sh_Pair) z (l - z.length) := by simp [szG, lenT, elsT, h0]
  rw [e]
  clear e
  generalize hR : szL (szG sh_Pair) z (l - z.length) = R
  refine ct_intro ttE_ok 1 rfl Tryz.func59 rfl rfl rfl ?_
  repeat ((try conv => whnf); first | (refine stpQ ?_))
  refine loop_of (Nat × Int) (fun x => ⟨[(0, .sl 16 z), (1, .int .i64 x.2), (5, .int .i64 (x.1 : Int))], [], 1⟩) (fun x => (x.1 ≤ z.length ∧ 0 ≤ x.2 ∧ x.2 ≤ 1048576) ∧ szL (szG sh_Pair) (z.drop x.1) x.2 = R) (fun x => z.length - x.1) (0, l - z.length) ⟨⟨Nat.zero_le _, by show (0 : Int) ≤ l - z.length; omega, by show l - z.length ≤ (1048576 : Int); omega⟩, hR⟩ ?_ ?_
  · (refine le_auto (by rfl) ?_ ?_) <;> (repeat' (first | (exact eqA) | (refine And.intro ?_ ?_) | ((fail_if_success (with_reducible (show _ = _))); (show _ = _)))) <;> first | rfl | decide
  · intro x hx
    obtain ⟨i, c⟩ := x
    have hi : i ≤ z.length := hx.1.1
    have hc0 : 0 ≤ c := hx.1.2.1
    have hc1 : c ≤ 1048576 := hx.1.2.2
    have hr : szL (szG sh_Pair) (z.drop i) c = R := hx.2
    clear hx hR
    by_cases hlt : i < z.length
    · have hi2 : (i : Int) < (z.length : Int) := by omega
      have hmem : z[i] ∈ z := List.getElem_mem hlt
      have gi : z[i]? = some z[i] := List.getElem?_eq_getElem hlt
      have hf := hz _ hmem
      rw [szL_drop gi] at hr
      generalize z[i] = e at hf gi hr
      obtain ⟨n0, n1, s2, s3, n4, z5, z6, z7, n8, n9, s10, s11, n12, z13, z14, z15, rfl, -⟩ := fits_Pair hf
      have cE := c_szPair [.int .i64 n0, .int .i64 n1, .str s2, .str s3, .int .i64 n4, .sl 1 z5, .sl 1 z6, .sl 1 z7, .int .i64 n8, .int .i64 n9, .str s10, .str s11, .int .i64 n12, .sl 1 z13, .sl 1 z14, .sl 1 z15] c hf ⟨hc0, hc1⟩
      have hb := szG_le sh_Pair [.int .i64 n0, .int .i64 n1, .str s2, .str s3, .int .i64 n4, .sl 1 z5, .sl 1 z6, .sl 1 z7, .int .i64 n8, .int .i64 n9, .str s10, .str s11, .int .i64 n12, .sl 1 z13, .sl 1 z14, .sl 1 z15] c hc0
      generalize szG sh_Pair [.int .i64 n0, .int .i64 n1, .str s2, .str s3, .int .i64 n4, .sl 1 z5, .sl 1 z6, .sl 1 z7, .int .i64 n8, .int .i64 n9, .str s10, .str s11, .int .i64 n12, .sl 1 z13, .sl 1 z14, .sl 1 z15] c = r at cE hb hr
      by_cases hneg : r < 0
      · rw [if_pos hneg] at hr
        rw [← hr]
        repeat ((try conv => whnf); first | (refine i_at gi ?_) | (refine ccA ([]) (cE) ?_) | (refine stpQ ?_))
        (refine ans_auto (by rfl) ?_ ?_ (by rfl)) <;> (repeat' (first | (exact eqA) | (refine And.intro ?_ ?_) | ((fail_if_success (with_reducible (show _ = _))); (show _ = _))))
      · rw [if_neg hneg] at hr
        repeat ((try conv => whnf); first | (refine i_at gi ?_) | (refine ccA ([]) (cE) ?_) | (refine stpQ ?_))
        refine ⟨(i + 1, r), ⟨⟨hlt, by show 0 ≤ r; omega, by show r ≤ 1048576; omega⟩, hr⟩, by show z.length - (i + 1) < z.length - i; omega, ?_⟩
        (refine le_auto (by rfl) ?_ ?_) <;> (repeat' (first | (exact eqA) | (refine And.intro ?_ ?_) | ((fail_if_success (with_reducible (show _ = _))); (show _ = _))))
    · obtain rfl : i = z.length := by omega
      rw [List.drop_length] at hr
      have hr2 : c = R := hr
      rw [← hr2]
      repeat ((try conv => whnf); first | (refine stpQ ?_))
      (refine ans_auto (by rfl) ?_ ?_ (by rfl)) <;> (repeat' (first | (exact eqA) | (refine And.intro ?_ ?_) | ((fail_if_success (with_reducible (show _ = _))); (show _ = _))))
set_option maxRecDepth 100000 in
set_option maxHeartbeats 2000000 in
theorem c_szAuditor (e : List T) (l : Int) (h : Fits maxLen sh_Auditor e) (hl : 0 ≤ l ∧ l ≤ 1048576) : CT Tryz.prog 34 [] [.agg e, .int .i64 l] (.int .i64 (szG sh_Auditor e l)) [] := by
  obtain ⟨n0, b1, z2, z3, z4, z5, rfl, qn0, qb1, qz2, qz3, qz4, qz5, -⟩ := fits_Auditor h
  clear h
  obtain ⟨R, hR⟩ : ∃ R, R = szG sh_Auditor [.int .i64 n0, .bool b1, .sl 3 z2, .sl 1 z3, .sl 8 z4, .sl 16 z5] l := ⟨_, rfl⟩
  rw [← hR]
  have k0 : ¬ l < 0 := by omega
  have k1 : ¬ l < 0 := by omega
  have u0 : 0 ≤ l ∧ l ≤ 1048576 := by omega
  have c0 := c_szDisk [.sl 3 z2] (l) (mk_Disk qz2) u0
  have d0 := szG_le sh_Disk [.sl 3 z2] (l) u0.1
  generalize g0 : szG sh_Disk [.sl 3 z2] (l) = r0 at c0 d0
  by_cases h0 : r0 < 0
  · have hE : R = -1 := hR.trans ((two_pos (r := l) (x := [.int .i64 n0]) (y := [.bool b1, .sl 3 z2, .sl 1 z3, .sl 8 z4, .sl 16 z5]) rfl rfl k0).trans ((two_pos (r := l) (x := [.bool b1]) (y := [.sl 3 z2, .sl 1 z3, .sl 8 z4, .sl 16 z5]) rfl rfl k1).trans (two_neg (x := [.sl 3 z2]) (y := [.sl 1 z3, .sl 8 z4, .sl 16 z5]) rfl g0 h0)))
    rw [hE]
    clear hR hE
    refine ct_intro ttE_ok 1 rfl Tryz.func34 rfl rfl rfl ?_
    repeat ((try conv => whnf); first | (refine ccA ([]) (c0) ?_) | (refine stpQ ?_))
    (refine ans_auto (by rfl) ?_ ?_ (by rfl)) <;> (repeat' (first | (exact eqA) | (refine And.intro ?_ ?_) | ((fail_if_success (with_reducible (show _ = _))); (show _ = _))))
  have u1 : 0 ≤ r0 ∧ r0 ≤ 1048576 := by omega
  have c1 := c_szStringS z3 (r0) qz3 u1
  have d1 := szG_le (.sl 1 .str) [.sl 1 z3] (r0) u1.1
  generalize g1 : szG (.sl 1 .str) [.sl 1 z3] (r0) = r1 at c1 d1
  by_cases h1 : r1 < 0
  · have hE : R = -1 := hR.trans ((two_pos (r := l) (x := [.int .i64 n0]) (y := [.bool b1, .sl 3 z2, .sl 1 z3, .sl 8 z4, .sl 16 z5]) rfl rfl k0).trans ((two_pos (r := l) (x := [.bool b1]) (y := [.sl 3 z2, .sl 1 z3, .sl 8 z4, .sl 16 z5]) rfl rfl k1).trans ((two_pos (x := [.sl 3 z2]) (y := [.sl 1 z3, .sl 8 z4, .sl 16 z5]) rfl g0 h0).trans (two_neg (x := [.sl 1 z3]) (y := [.sl 8 z4, .sl 16 z5]) rfl g1 h1))))
    rw [hE]
    clear hR hE
    refine ct_intro ttE_ok 1 rfl Tryz.func34 rfl rfl rfl ?_
    repeat ((try conv => whnf); first | (refine ccA ([]) (c0) ?_) | (refine ccA ([]) (c1) ?_) | (refine stpQ ?_))
    (refine ans_auto (by rfl) ?_ ?_ (by rfl)) <;> (repeat' (first | (exact eqA) | (refine And.intro ?_ ?_) | ((fail_if_success (with_reducible (show _ = _))); (show _ = _))))
  have u2 : 0 ≤ r1 ∧ r1 ≤ 1048576 := by omega
  have c2 := c_szSealS z4 (r1) qz4 u2
  have d2 := szG_le (.sl 8 sh_Seal) [.sl 8 z4] (r1) u2.1
  generalize g2 : szG (.sl 8 sh_Seal) [.sl 8 z4] (r1) = r2 at c2 d2
  by_cases h2 : r2 < 0
  · have hE : R = -1 := hR.trans ((two_pos (r := l) (x := [.int .i64 n0]) (y := [.bool b1, .sl 3 z2, .sl 1 z3, .sl 8 z4, .sl 16 z5]) rfl rfl k0).trans ((two_pos (r := l) (x := [.bool b1]) (y := [.sl 3 z2, .sl 1 z3, .sl 8 z4, .sl 16 z5]) rfl rfl k1).trans ((two_pos (x := [.sl 3 z2]) (y := [.sl 1 z3, .sl 8 z4, .sl 16 z5]) rfl g0 h0).trans ((two_pos (x := [.sl 1 z3]) (y := [.sl 8 z4, .sl 16 z5]) rfl g1 h1).trans (two_neg (x := [.sl 8 z4]) (y := [.sl 16 z5]) rfl g2 h2)))))
    rw [hE]
    clear hR hE
    refine ct_intro ttE_ok 1 rfl Tryz.func34 rfl rfl rfl ?_
    repeat ((try conv => whnf); first | (refine ccA ([]) (c0) ?_) | (refine ccA ([]) (c1) ?_) | (refine ccA ([]) (c2) ?_) | (refine stpQ ?_))
    (refine ans_auto (by rfl) ?_ ?_ (by rfl)) <;> (repeat' (first | (exact eqA) | (refine And.intro ?_ ?_) | ((fail_if_success (with_reducible (show _ = _))); (show _ = _))))
  have u3 : 0 ≤ r2 ∧ r2 ≤ 1048576 := by omega
  have c3 := c_szPairS z5 (r2) qz5 u3
  have d3 := szG_le (.sl 16 sh_Pair) [.sl 16 z5] (r2) u3.1
  generalize g3 : szG (.sl 16 sh_Pair) [.sl 16 z5] (r2) = r3 at c3 d3
  by_cases h3 : r3 < 0
  · have hE : R = -1 := hR.trans ((two_pos (r := l) (x := [.int .i64 n0]) (y := [.bool b1, .sl 3 z2, .sl 1 z3, .sl 8 z4, .sl 16 z5]) rfl rfl k0).trans ((two_pos (r := l) (x := [.bool b1]) (y := [.sl 3 z2, .sl 1 z3, .sl 8 z4, .sl 16 z5]) rfl rfl k1).trans ((two_pos (x := [.sl 3 z2]) (y := [.sl 1 z3, .sl 8 z4, .sl 16 z5]) rfl g0 h0).trans ((two_pos (x := [.sl 1 z3]) (y := [.sl 8 z4, .sl 16 z5]) rfl g1 h1).trans ((two_pos (x := [.sl 8 z4]) (y := [.sl 16 z5]) rfl g2 h2).trans (two_neg (x := [.sl 16 z5]) (y := []) rfl g3 h3))))))
    rw [hE]
    clear hR hE
    refine ct_intro ttE_ok 1 rfl Tryz.func34 rfl rfl rfl ?_
    repeat ((try conv => whnf); first | (refine ccA ([]) (c0) ?_) | (refine ccA ([]) (c1) ?_) | (refine ccA ([]) (c2) ?_) | (refine ccA ([]) (c3) ?_) | (refine stpQ ?_))
    (refine ans_auto (by rfl) ?_ ?_ (by rfl)) <;> (repeat' (first | (exact eqA) | (refine And.intro ?_ ?_) | ((fail_if_success (with_reducible (show _ = _))); (show _ = _))))
  have hE : R = r3 := hR.trans ((two_pos (r := l) (x := [.int .i64 n0]) (y := [.bool b1, .sl 3 z2, .sl 1 z3, .sl 8 z4, .sl 16 z5]) rfl rfl k0).trans ((two_pos (r := l) (x := [.bool b1]) (y := [.sl 3 z2, .sl 1 z3, .sl 8 z4, .sl 16 z5]) rfl rfl k1).trans ((two_pos (x := [.sl 3 z2]) (y := [.sl 1 z3, .sl 8 z4, .sl 16 z5]) rfl g0 h0).trans ((two_pos (x := [.sl 1 z3]) (y := [.sl 8 z4, .sl 16 z5]) rfl g1 h1).trans ((two_pos (x := [.sl 8 z4]) (y := [.sl 16 z5]) rfl g2 h2).trans ((two_pos (x := [.sl 16 z5]) (y := []) rfl g3 h3).trans (rfl)))))))
  rw [hE]
  clear hR hE
  refine ct_intro ttE_ok 1 rfl Tryz.func34 rfl rfl rfl ?_
  repeat ((try conv => whnf); first | (refine ccA ([]) (c0) ?_) | (refine ccA ([]) (c1) ?_) | (refine ccA ([]) (c2) ?_) | (refine ccA ([]) (c3) ?_) | (refine stpQ ?_))
  (refine ans_auto (by rfl) ?_ ?_ (by rfl)) <;> (repeat' (first | (exact eqA) | (refine And.intro ?_ ?_) | ((fail_if_success (with_reducible (show _ = _))); (show _ = _))))
set_option maxRecDepth 100000 in
set_option maxHeartbeats 2000000 in
theorem c_szNote (e : List T) (l : Int) (h : Fits maxLen sh_Note e) (hl : 0 ≤ l ∧ l ≤ 1048576) : CT Tryz.prog 35 [] [.agg e, .int .i64 l] (.int .i64 (szG sh_Note e l)) [] := by
  obtain ⟨n0, s1, rfl, qn0, qs1, -⟩ := fits_Note h
  clear h
  obtain ⟨R, hR⟩ : ∃ R, R = szG sh_Note [.int .i64 n0, .str s1] l := ⟨_, rfl⟩
  rw [← hR]
  have k0 : ¬ l < 0 := by omega
  have u0 : 0 ≤ l ∧ l ≤ 1048576 := by omega
  have m0 : (s1.length : Int) ≤ 9223372036854775807 := by have := qs1; unfold maxLen at this; omega
  by_cases h0 : l - (s1.length : Int) < 0
  · have hE : R = -1 := hR.trans ((two_pos (r := l) (x := [.int .i64 n0]) (y := [.str s1]) rfl rfl k0).trans (two_neg (x := [.str s1]) (y := []) rfl (str_neg h0) (by decide)))
    rw [hE]
    clear hR hE
    refine ct_intro ttE_ok 1 rfl Tryz.func35 rfl rfl rfl ?_
    repeat ((try conv => whnf); first | (refine stpQ ?_))
    (refine ans_auto (by rfl) ?_ ?_ (by rfl)) <;> (repeat' (first | (exact eqA) | (refine And.intro ?_ ?_) | ((fail_if_success (with_reducible (show _ = _))); (show _ = _))))
  have hE : R = l - (s1.length : Int) := hR.trans ((two_pos (r := l) (x := [.int .i64 n0]) (y := [.str s1]) rfl rfl k0).trans ((two_pos (x := [.str s1]) (y := []) rfl (str_pos h0) h0).trans (rfl)))
  rw [hE]
  clear hR hE
  refine ct_intro ttE_ok 1 rfl Tryz.func35 rfl rfl rfl ?_
  repeat ((try conv => whnf); first | (refine stpQ ?_))
  (refine ans_auto (by rfl) ?_ ?_ (by rfl)) <;> (repeat' (first | (exact eqA) | (refine And.intro ?_ ?_) | ((fail_if_success (with_reducible (show _ = _))); (show _ = _))))
set_option maxRecDepth 100000 in
set_option maxHeartbeats 2000000 in
theorem c_szGiven (e : List T) (l : Int) (h : Fits maxLen sh_Given e) (hl : 0 ≤ l ∧ l ≤ 1048576) : CT Tryz.prog 36 [] [.agg e, .int .i64 l] (.int .i64 (szG sh_Given e l)) [] := by
  obtain ⟨n0, n1, n2, n3, z4, z5, z6, rfl, qn0, qn1, qn2, qn3, qz4, qz5, qz6, -⟩ := fits_Given h
  clear h
  obtain ⟨R, hR⟩ : ∃ R, R = szG sh_Given [.int .i64 n0, .int .i64 n1, .int .i64 n2, .int .i64 n3, .sl 1 z4, .sl 1 z5, .sl 1 z6] l := ⟨_, rfl⟩
  rw [← hR]
  have k0 : ¬ l < 0 := by omega
  have k1 : ¬ l < 0 := by omega
  have u0 : 0 ≤ l ∧ l ≤ 1048576 := by omega
  have c0 := c_szStamp [.int .i64 n2, .int .i64 n3, .sl 1 z4, .sl 1 z5, .sl 1 z6] (l) (mk_Stamp qn2 qn3 qz4 qz5 qz6) u0
  have d0 := szG_le sh_Stamp [.int .i64 n2, .int .i64 n3, .sl 1 z4, .sl 1 z5, .sl 1 z6] (l) u0.1
  generalize g0 : szG sh_Stamp [.int .i64 n2, .int .i64 n3, .sl 1 z4, .sl 1 z5, .sl 1 z6] (l) = r0 at c0 d0
  by_cases h0 : r0 < 0
  · have hE : R = -1 := hR.trans ((two_pos (r := l) (x := [.int .i64 n0]) (y := [.int .i64 n1, .int .i64 n2, .int .i64 n3, .sl 1 z4, .sl 1 z5, .sl 1 z6]) rfl rfl k0).trans ((two_pos (r := l) (x := [.int .i64 n1]) (y := [.int .i64 n2, .int .i64 n3, .sl 1 z4, .sl 1 z5, .sl 1 z6]) rfl rfl k1).trans (two_neg (x := [.int .i64 n2, .int .i64 n3, .sl 1 z4, .sl 1 z5, .sl 1 z6]) (y := []) rfl g0 h0)))
    rw [hE]
    clear hR hE
    refine ct_intro ttE_ok 1 rfl Tryz.func36 rfl rfl rfl ?_
    repeat ((try conv => whnf); first | (refine ccA ([]) (c0) ?_) | (refine stpQ ?_))
    (refine ans_auto (by rfl) ?_ ?_ (by rfl)) <;> (repeat' (first | (exact eqA) | (refine And.intro ?_ ?_) | ((fail_if_success (with_reducible (show _ = _))); (show _ = _))))
  have hE : R = r0 := hR.trans ((two_pos (r := l) (x := [.int .i64 n0]) (y := [.int .i64 n1, .int .i64 n2, .int .i64 n3, .sl 1 z4, .sl 1 z5, .sl 1 z6]) rfl rfl k0).trans ((two_pos (r := l) (x := [.int .i64 n1]) (y := [.int .i64 n2, .int .i64 n3, .sl 1 z4, .sl 1 z5, .sl 1 z6]) rfl rfl k1).trans ((two_pos (x := [.int .i64 n2, .int .i64 n3, .sl 1 z4, .sl 1 z5, .sl 1 z6]) (y := []) rfl g0 h0).trans (rfl))))
  rw [hE]
  clear hR hE
  refine ct_intro ttE_ok 1 rfl Tryz.func36 rfl rfl rfl ?_
  repeat ((try conv => whnf); first | (refine ccA ([]) (c0) ?_) | (refine stpQ ?_))
  (refine ans_auto (by rfl) ?_ ?_ (by rfl)) <;> (repeat' (first | (exact eqA) | (refine And.intro ?_ ?_) | ((fail_if_success (with_reducible (show _ = _))); (show _ = _))))
set_option maxRecDepth 100000 in
set_option maxHeartbeats 1000000 in
theorem c_szHouseS (z : List (List T)) (l : Int) (h : z.length ≤ maxLen ∧ ∀ e ∈ z, Fits maxLen sh_House e) (hl : 0 ≤ l ∧ l ≤ 1048576) : CT Tryz.prog 9 [] [.sl 14 z, .int .i64 l] (.int .i64 (szG (.sl 14 sh_House) [.sl 14 z] l)) [] := by
  obtain ⟨hn, hz⟩ := h
  have hn2 : (z.length : Int) ≤ 9223372036854775807 := by unfold maxLen at hn; omega
  by_cases h0 : l - (z.length : Int) < 0
  · have e : szG (.sl 14 sh_House) [.sl 14 z] l = -1 := by simp [szG, lenT, h0]
    rw [e]
    refine ct_intro ttE_ok 1 rfl Tryz.func9 rfl rfl rfl ?_
    repeat ((try conv => whnf); first | (refine stpQ ?_))
    (refine ans_auto (by rfl) ?_ ?_ (by rfl)) <;> (repeat' (first | (exact eqA) | (refine And.intro ?_ ?_) | ((fail_if_success (with_reducible (show _ = _))); (show _ = _))))
  have e : szG (.sl 14 sh_House) [.sl 14 z] l = szL (szG sh_House) z (l - z.length) := by simp [szG, lenT, elsT, h0]
  rw [e]
  clear e
  generalize hR : szL (szG sh_House) z (l - z.length) = R
  refine ct_intro ttE_ok 1 rfl Tryz.func9 rfl rfl rfl ?_
  repeat ((try conv => whnf); first | (refine stpQ ?_))
  refine loop_of (Nat × Int) (fun x => ⟨[(0, .sl 14 z), (1, .int .i64 x.2), (5, .int .i64 (x.1 : Int))], [], 1⟩) (fun x => (x.1 ≤ z.length ∧ 0 ≤ x.2 ∧ x.2 ≤ 1048576) ∧ szL (szG sh_House) (z.drop x.1) x.2 = R) (fun x => z.length - x.1) (0, l - z.length) ⟨⟨Nat.zero_le _, by show (0 : Int) ≤ l - z.length; omega, by show l - z.length ≤ (1048576 : Int); omega⟩, hR⟩ ?_ ?_
  · (refine le_auto (by rfl) ?_ ?_) <;> (repeat' (first | (exact eqA) | (refine And.intro ?_ ?_) | ((fail_if_success (with_reducible (show _ = _))); (show _ = _)))) <;> first | rfl | decide
  · intro x hx
    obtain ⟨i, c⟩ := x
    have hi : i ≤ z.length := hx.1.1
    have hc0 : 0 ≤ c := hx.1.2.1
    have hc1 : c ≤ 1048576 := hx.1.2.2
    have hr : szL (szG sh_House) (z.drop i) c = R := hx.2
    clear hx hR
    by_cases hlt : i < z.length
    · have hi2 : (i : Int) < (z.length : Int) := by omega
      have hmem : z[i] ∈ z := List.getElem_mem hlt
      have gi : z[i]? = some z[i] := List.getElem?_eq_getElem hlt
      have hf := hz _ hmem
      rw [szL_drop gi] at hr
      generalize z[i] = e at hf gi hr
      obtain ⟨n0, n1, b2, z3, z4, z5, z6, n7, b8, z9, z10, z11, z12, z13, rfl, -⟩ := fits_House hf
      have cE := c_szHouse [.int .i64 n0, .int .i64 n1, .bool b2, .sl 3 z3, .sl 1 z4, .sl 8 z5, .sl 1 z6, .int .i64 n7, .bool b8, .sl 1 z9, .sl 1 z10, .sl 11 z11, .sl 1 z12, .sl 1 z13] c hf ⟨hc0, hc1⟩
      have hb := szG_le sh_House [.int .i64 n0, .int .i64 n1, .bool b2, .sl 3 z3, .sl 1 z4, .sl 8 z5, .sl 1 z6, .int .i64 n7, .bool b8, .sl 1 z9, .sl 1 z10, .sl 11 z11, .sl 1 z12, .sl 1 z13] c hc0
      generalize szG sh_House [.int .i64 n0, .int .i64 n1, .bool b2, .sl 3 z3, .sl 1 z4, .sl 8 z5, .sl 1 z6, .int .i64 n7, .bool b8, .sl 1 z9, .sl 1 z10, .sl 11 z11, .sl 1 z12, .sl 1 z13] c = r at cE hb hr
      by_cases hneg : r < 0
      · rw [if_pos hneg] at hr
        rw [← hr]
        repeat ((try conv => whnf); first | (refine i_at gi ?_) | (refine ccA ([]) (cE) ?_) | (refine stpQ ?_))
        (refine ans_auto (by rfl) ?_ ?_ (by rfl)) <;> (repeat' (first | (exact eqA) | (refine And.intro ?_ ?_) | ((fail_if_success (with_reducible (show _ = _))); (show _ = _))))
      · rw [if_neg hneg] at hr
        repeat ((try conv => whnf); first | (refine i_at gi ?_) | (refine ccA ([]) (cE) ?_) | (refine stpQ ?_))
        refine ⟨(i + 1, r), ⟨⟨hlt, by show 0 ≤ r; omega, by show r ≤ 1048576; omega⟩, hr⟩, by show z.length - (i + 1) < z.length - i; omega, ?_⟩
        (refine le_auto (by rfl) ?_ ?_) <;> (repeat' (first | (exact eqA) | (refine And.intro ?_ ?_) | ((fail_if_success (with_reducible (show _ = _))); (show _ = _))))
    · obtain rfl : i = z.length := by omega
      rw [List.drop_length] at hr
      have hr2 : c = R := hr
      rw [← hr2]
      repeat ((try conv => whnf); first | (refine stpQ ?_))
      (refine ans_auto (by rfl) ?_ ?_ (by rfl)) <;> (repeat' (first | (exact eqA) | (refine And.intro ?_ ?_) | ((fail_if_success (with_reducible (show _ = _))); (show _ = _))))
set_option maxRecDepth 100000 in
set_option maxHeartbeats 1000000 in
theorem c_szAuditorS (z : List (List T)) (l : Int) (h : z.length ≤ maxLen ∧ ∀ e ∈ z, Fits maxLen sh_Auditor e) (hl : 0 ≤ l ∧ l ≤ 1048576) : CT Tryz.prog 10 [] [.sl 6 z, .int .i64 l] (.int .i64 (szG (.sl 6 sh_Auditor) [.sl 6 z] l)) [] := by
  obtain ⟨hn, hz⟩ := h
  have hn2 : (z.length : Int) ≤ 9223372036854775807 := by unfold maxLen at hn; omega
  by_cases h0 : l - (z.length : Int) < 0
  · have e : szG (.sl 6 sh_Auditor) [.sl 6 z] l = -1 := by simp [szG, lenT, h0]
    rw [e]
    refine ct_intro ttE_ok 1 rfl Tryz.func10 rfl rfl rfl ?_
    repeat ((try conv => whnf); first | (refine stpQ ?_))
    (refine ans_auto (by rfl) ?_ ?_ (by rfl)) <;> (repeat' (first | (exact eqA) | (refine And.intro ?_ ?_) | ((fail_if_success (with_reducible (show _ = _))); (show _ = _))))
  have e : szG (.sl 6 sh_Auditor) [.sl 6 z] l = szL (szG sh_Auditor) z (l - z.length) := by simp [szG, lenT, elsT, h0]
  rw [e]
  clear e
  generalize hR : szL (szG sh_Auditor) z (l - z.length) = R
  refine ct_intro ttE_ok 1 rfl Tryz.func10 rfl rfl rfl ?_
  repeat ((try conv => whnf); first | (refine stpQ ?_))
  refine loop_of (Nat × Int) (fun x => ⟨[(0, .sl 6 z), (1, .int .i64 x.2), (5, .int .i64 (x.1 : Int))], [], 1⟩) (fun x => (x.1 ≤ z.length ∧ 0 ≤ x.2 ∧ x.2 ≤ 1048576) ∧ szL (szG sh_Auditor) (z.drop x.1) x.2 = R) (fun x => z.length - x.1) (0, l - z.length) ⟨⟨Nat.zero_le _, by show (0 : Int) ≤ l - z.length; omega, by show l - z.length ≤ (1048576 : Int); omega⟩, hR⟩ ?_ ?_
  · (refine le_auto (by rfl) ?_ ?_) <;> (repeat' (first | (exact eqA) | (refine And.intro ?_ ?_) | ((fail_if_success (with_reducible (show _ = _))); (show _ = _)))) <;> first | rfl | decide
  · intro x hx
    obtain ⟨i, c⟩ := x
    have hi : i ≤ z.length := hx.1.1
    have hc0 : 0 ≤ c := hx.1.2.1
    have hc1 : c ≤ 1048576 := hx.1.2.2
    have hr : szL (szG sh_Auditor) (z.drop i) c = R := hx.2
    clear hx hR
    by_cases hlt : i < z.length
    · have hi2 : (i : Int) < (z.length : Int) := by omega
      have hmem : z[i] ∈ z := List.getElem_mem hlt
      have gi : z[i]? = some z[i] := List.getElem?_eq_getElem hlt
      have hf := hz _ hmem
      rw [szL_drop gi] at hr
      generalize z[i] = e at hf gi hr
      obtain ⟨n0, b1, z2, z3, z4, z5, rfl, -⟩ := fits_Auditor hf
      have cE := c_szAuditor [.int .i64 n0, .bool b1, .sl 3 z2, .sl 1 z3, .sl 8 z4, .sl 16 z5] c hf ⟨hc0, hc1⟩
      have hb := szG_le sh_Auditor [.int .i64 n0, .bool b1, .sl 3 z2, .sl 1 z3, .sl 8 z4, .sl 16 z5] c hc0
      generalize szG sh_Auditor [.int .i64 n0, .bool b1, .sl 3 z2, .sl 1 z3, .sl 8 z4, .sl 16 z5] c = r at cE hb hr
      by_cases hneg : r < 0
      · rw [if_pos hneg] at hr
        rw [← hr]
        repeat ((try conv => whnf); first | (refine i_at gi ?_) | (refine ccA ([]) (cE) ?_) | (refine stpQ ?_))
        (refine ans_auto (by rfl) ?_ ?_ (by rfl)) <;> (repeat' (first | (exact eqA) | (refine And.intro ?_ ?_) | ((fail_if_success (with_reducible (show _ = _))); (show _ = _))))
      · rw [if_neg hneg] at hr
        repeat ((try conv => whnf); first | (refine i_at gi ?_) | (refine ccA ([]) (cE) ?_) | (refine stpQ ?_))
        refine ⟨(i + 1, r), ⟨⟨hlt, by show 0 ≤ r; omega, by show r ≤ 1048576; omega⟩, hr⟩, by show z.length - (i + 1) < z.length - i; omega, ?_⟩
        (refine le_auto (by rfl) ?_ ?_) <;> (repeat' (first | (exact eqA) | (refine And.intro ?_ ?_) | ((fail_if_success (with_reducible (show _ = _))); (show _ = _))))
    · obtain rfl : i = z.length := by omega
      rw [List.drop_length] at hr
      have hr2 : c = R := hr
      rw [← hr2]
      repeat ((try conv => whnf); first | (refine stpQ ?_))
      (refine ans_auto (by rfl) ?_ ?_ (by rfl)) <;> (repeat' (first | (exact eqA) | (refine And.intro ?_ ?_) | ((fail_if_success (with_reducible (show _ = _))); (show _ = _))))
set_option maxRecDepth 100000 in
set_option maxHeartbeats 1000000 in
theorem c_szNoteS (z : List (List T)) (l : Int) (h : z.length ≤ maxLen ∧ ∀ e ∈ z, Fits maxLen sh_Note e) (hl : 0 ≤ l ∧ l ≤ 1048576) : CT Tryz.prog 11 [] [.sl 2 z, .int .i64 l] (.int .i64 (szG (.sl 2 sh_Note) [.sl 2 z] l)) [] := by
  obtain ⟨hn, hz⟩ := h
  have hn2 : (z.length : Int) ≤ 9223372036854775807 := by unfold maxLen at hn; omega
  by_cases h0 : l - (z.length : Int) < 0
  · have e : szG (.sl 2 sh_Note) [.sl 2 z] l = -1 := by simp [szG, lenT, h0]
    rw [e]
    refine ct_intro ttE_ok 1 rfl Tryz.func11 rfl rfl rfl ?_
    repeat ((try conv => whnf); first | (refine stpQ ?_))
    (refine ans_auto (by rfl) ?_ ?_ (by rfl)) <;> (repeat' (first | (exact eqA) | (refine And.intro ?_ ?_) | ((fail_if_success (with_reducible (show _ = _))); (show _ = _))))
  have e : szG (.sl 2 sh_Note) [.sl 2 z] l = szL (szG sh_Note) z (l - z.length) := by simp [szG, lenT, elsT, h0]
  rw [e]
  clear e
  generalize hR : szL (szG sh_Note) z (l - z.length) = R
  refine ct_intro ttE_ok 1 rfl Tryz.func11 rfl rfl rfl ?_
  repeat ((try conv => whnf); first | (refine stpQ ?_))
  refine loop_of (Nat × Int) (fun x => ⟨[(0, .sl 2 z), (1, .int .i64 x.2), (5, .int .i64 (x.1 : Int))], [], 1⟩) (fun x => (x.1 ≤ z.length ∧ 0 ≤ x.2 ∧ x.2 ≤ 1048576) ∧ szL (szG sh_Note) (z.drop x.1) x.2 = R) (fun x => z.length - x.1) (0, l - z.length) ⟨⟨Nat.zero_le _, by show (0 : Int) ≤ l - z.length; omega, by show l - z.length ≤ (1048576 : Int); omega⟩, hR⟩ ?_ ?_
  · (refine le_auto (by rfl) ?_ ?_) <;> (repeat' (first | (exact eqA) | (refine And.intro ?_ ?_) | ((fail_if_success (with_reducible (show _ = _))); (show _ = _)))) <;> first | rfl | decide
  · intro x hx
    obtain ⟨i, c⟩ := x
    have hi : i ≤ z.length := hx.1.1
    have hc0 : 0 ≤ c := hx.1.2.1
    have hc1 : c ≤ 1048576 := hx.1.2.2
    have hr : szL (szG sh_Note) (z.drop i) c = R := hx.2
    clear hx hR
    by_cases hlt : i < z.length
    · have hi2 : (i : Int) < (z.length : Int) := by omega
      have hmem : z[i] ∈ z := List.getElem_mem hlt
      have gi : z[i]? = some z[i] := List.getElem?_eq_getElem hlt
      have hf := hz _ hmem
      rw [szL_drop gi] at hr
      generalize z[i] = e at hf gi hr
      obtain ⟨n0, s1, rfl, -⟩ := fits_Note hf
      have cE := c_szNote [.int .i64 n0, .str s1] c hf ⟨hc0, hc1⟩
      have hb := szG_le sh_Note [.int .i64 n0, .str s1] c hc0
      generalize szG sh_Note [.int .i64 n0, .str s1] c = r at cE hb hr
      by_cases hneg : r < 0
      · rw [if_pos hneg] at hr
        rw [← hr]
        repeat ((try conv => whnf); first | (refine i_at gi ?_) | (refine ccA ([]) (cE) ?_) | (refine stpQ ?_))
        (refine ans_auto (by rfl) ?_ ?_ (by rfl)) <;> (repeat' (first | (exact eqA) | (refine And.intro ?_ ?_) | ((fail_if_success (with_reducible (show _ = _))); (show _ = _))))
      · rw [if_neg hneg] at hr
        repeat ((try conv => whnf); first | (refine i_at gi ?_) | (refine ccA ([]) (cE) ?_) | (refine stpQ ?_))
        refine ⟨(i + 1, r), ⟨⟨hlt, by show 0 ≤ r; omega, by show r ≤ 1048576; omega⟩, hr⟩, by show z.length - (i + 1) < z.length - i; omega, ?_⟩
        (refine le_auto (by rfl) ?_ ?_) <;> (repeat' (first | (exact eqA) | (refine And.intro ?_ ?_) | ((fail_if_success (with_reducible (show _ = _))); (show _ = _))))
    · obtain rfl : i = z.length := by omega
      rw [List.drop_length] at hr
      have hr2 : c = R := hr
      rw [← hr2]
      repeat ((try conv => whnf); first | (refine stpQ ?_))
      (refine ans_auto (by rfl) ?_ ?_ (by rfl)) <;> (repeat' (first | (exact eqA) | (refine And.intro ?_ ?_) | ((fail_if_success (with_reducible (show _ = _))); (show _ = _))))
set_option maxRecDepth 100000 in
set_option maxHeartbeats 1000000 in
theorem c_szGivenS (z : List (List T)) (l : Int) (h : z.length ≤ maxLen ∧ ∀ e ∈ z, Fits maxLen sh_Given e) (hl : 0 ≤ l ∧ l ≤ 1048576) : CT Tryz.prog 12 [] [.sl 7 z, .int .i64 l] (.int .i64 (szG (.sl 7 sh_Given) [.sl 7 z] l)) [] := by
  obtain ⟨hn, hz⟩ := h
  have hn2 : (z.length : Int) ≤ 9223372036854775807 := by unfold maxLen at hn; omega
  by_cases h0 : l - (z.length : Int) < 0
  · have e : szG (.sl 7 sh_Given) [.sl 7 z] l = -1 := by simp [szG, lenT, h0]
    rw [e]
    refine ct_intro ttE_ok 1 rfl Tryz.func12 rfl rfl rfl ?_
    repeat ((try conv => whnf); first | (refine stpQ ?_))
    (refine ans_auto (by rfl) ?_ ?_ (by rfl)) <;> (repeat' (first | (exact eqA) | (refine And.intro ?_ ?_) | ((fail_if_success (with_reducible (show _ = _))); (show _ = _))))
  have e : szG (.sl 7 sh_Given) [.sl 7 z] l = szL (szG sh_Given) z (l - z.length) := by simp [szG, lenT, elsT, h0]
  rw [e]
  clear e
  generalize hR : szL (szG sh_Given) z (l - z.length) = R
  refine ct_intro ttE_ok 1 rfl Tryz.func12 rfl rfl rfl ?_
  repeat ((try conv => whnf); first | (refine stpQ ?_))
  refine loop_of (Nat × Int) (fun x => ⟨[(0, .sl 7 z), (1, .int .i64 x.2), (5, .int .i64 (x.1 : Int))], [], 1⟩) (fun x => (x.1 ≤ z.length ∧ 0 ≤ x.2 ∧ x.2 ≤ 1048576) ∧ szL (szG sh_Given) (z.drop x.1) x.2 = R) (fun x => z.length - x.1) (0, l - z.length) ⟨⟨Nat.zero_le _, by show (0 : Int) ≤ l - z.length; omega, by show l - z.length ≤ (1048576 : Int); omega⟩, hR⟩ ?_ ?_
  · (refine le_auto (by rfl) ?_ ?_) <;> (repeat' (first | (exact eqA) | (refine And.intro ?_ ?_) | ((fail_if_success (with_reducible (show _ = _))); (show _ = _)))) <;> first | rfl | decide
  · intro x hx
    obtain ⟨i, c⟩ := x
    have hi : i ≤ z.length := hx.1.1
    have hc0 : 0 ≤ c := hx.1.2.1
    have hc1 : c ≤ 1048576 := hx.1.2.2
    have hr : szL (szG sh_Given) (z.drop i) c = R := hx.2
    clear hx hR
    by_cases hlt : i < z.length
    · have hi2 : (i : Int) < (z.length : Int) := by omega
      have hmem : z[i] ∈ z := List.getElem_mem hlt
      have gi : z[i]? = some z[i] := List.getElem?_eq_getElem hlt
      have hf := hz _ hmem
      rw [szL_drop gi] at hr
      generalize z[i] = e at hf gi hr
      obtain ⟨n0, n1, n2, n3, z4, z5, z6, rfl, -⟩ := fits_Given hf
      have cE := c_szGiven [.int .i64 n0, .int .i64 n1, .int .i64 n2, .int .i64 n3, .sl 1 z4, .sl 1 z5, .sl 1 z6] c hf ⟨hc0, hc1⟩
      have hb := szG_le sh_Given [.int .i64 n0, .int .i64 n1, .int .i64 n2, .int .i64 n3, .sl 1 z4, .sl 1 z5, .sl 1 z6] c hc0
      generalize szG sh_Given [.int .i64 n0, .int .i64 n1, .int .i64 n2, .int .i64 n3, .sl 1 z4, .sl 1 z5, .sl 1 z6] c = r at cE hb hr
      by_cases hneg : r < 0
      · rw [if_pos hneg] at hr
        rw [← hr]
        repeat ((try conv => whnf); first | (refine i_at gi ?_) | (refine ccA ([]) (cE) ?_) | (refine stpQ ?_))
        (refine ans_auto (by rfl) ?_ ?_ (by rfl)) <;> (repeat' (first | (exact eqA) | (refine And.intro ?_ ?_) | ((fail_if_success (with_reducible (show _ = _))); (show _ = _))))
      · rw [if_neg hneg] at hr
        repeat ((try conv => whnf); first | (refine i_at gi ?_) | (refine ccA ([]) (cE) ?_) | (refine stpQ ?_))
        refine ⟨(i + 1, r), ⟨⟨hlt, by show 0 ≤ r; omega, by show r ≤ 1048576; omega⟩, hr⟩, by show z.length - (i + 1) < z.length - i; omega, ?_⟩
        (refine le_auto (by rfl) ?_ ?_) <;> (repeat' (first | (exact eqA) | (refine And.intro ?_ ?_) | ((fail_if_success (with_reducible (show _ = _))); (show _ = _))))
    · obtain rfl : i = z.length := by omega
      rw [List.drop_length] at hr
      have hr2 : c = R := hr
      rw [← hr2]
      repeat ((try conv => whnf); first | (refine stpQ ?_))
      (refine ans_auto (by rfl) ?_ ?_ (by rfl)) <;> (repeat' (first | (exact eqA) | (refine And.intro ?_ ?_) | ((fail_if_success (with_reducible (show _ = _))); (show _ = _))))
set_option maxRecDepth 100000 in
set_option maxHeartbeats 2000000 in
theorem c_szWorld (e : List T) (l : Int) (h : Fits maxLen sh_World e) (hl : 0 ≤ l ∧ l ≤ 1048576) : CT Tryz.prog 4 [] [.agg e, .int .i64 l] (.int .i64 (szG sh_World e l)) [] := by
  obtain ⟨z0, z1, z2, z3, z4, z5, rfl, qz0, qz1, qz2, qz3, qz4, qz5, -⟩ := fits_World h
  clear h
  obtain ⟨R, hR⟩ : ∃ R, R = szG sh_World [.sl 14 z0, .sl 6 z1, .sl 2 z2, .sl 7 z3, .sl 1 z4, .sl 1 z5] l := ⟨_, rfl⟩
  rw [← hR]
  have u0 : 0 ≤ l ∧ l ≤ 1048576 := by omega
  have c0 := c_szHouseS z0 (l) qz0 u0
  have d0 := szG_le (.sl 14 sh_House) [.sl 14 z0] (l) u0.1
  generalize g0 : szG (.sl 14 sh_House) [.sl 14 z0] (l) = r0 at c0 d0
  by_cases h0 : r0 < 0
  · have hE : R = -1 := hR.trans (two_neg (x := [.sl 14 z0]) (y := [.sl 6 z1, .sl 2 z2, .sl 7 z3, .sl 1 z4, .sl 1 z5]) rfl g0 h0)
    rw [hE]
    clear hR hE
    refine ct_intro ttE_ok 1 rfl Tryz.func4 rfl rfl rfl ?_
    repeat ((try conv => whnf); first | (refine ccA ([]) (c0) ?_) | (refine stpQ ?_))
    (refine ans_auto (by rfl) ?_ ?_ (by rfl)) <;> (repeat' (first | (exact eqA) | (refine And.intro ?_ ?_) | ((fail_if_success (with_reducible (show _ = _))); (show _ = _))))
  have u1 : 0 ≤ r0 ∧ r0 ≤ 1048576 := by omega
  have c1 := c_szAuditorS z1 (r0) qz1 u1
  have d1 := szG_le (.sl 6 sh_Auditor) [.sl 6 z1] (r0) u1.1
  generalize g1 : szG (.sl 6 sh_Auditor) [.sl 6 z1] (r0) = r1 at c1 d1
  by_cases h1 : r1 < 0
  · have hE : R = -1 := hR.trans ((two_pos (x := [.sl 14 z0]) (y := [.sl 6 z1, .sl 2 z2, .sl 7 z3, .sl 1 z4, .sl 1 z5]) rfl g0 h0).trans (two_neg (x := [.sl 6 z1]) (y := [.sl 2 z2, .sl 7 z3, .sl 1 z4, .sl 1 z5]) rfl g1 h1))
    rw [hE]
    clear hR hE
    refine ct_intro ttE_ok 1 rfl Tryz.func4 rfl rfl rfl ?_
    repeat ((try conv => whnf); first | (refine ccA ([]) (c0) ?_) | (refine ccA ([]) (c1) ?_) | (refine stpQ ?_))
    (refine ans_auto (by rfl) ?_ ?_ (by rfl)) <;> (repeat' (first | (exact eqA) | (refine And.intro ?_ ?_) | ((fail_if_success (with_reducible (show _ = _))); (show _ = _))))
  have u2 : 0 ≤ r1 ∧ r1 ≤ 1048576 := by omega
  have c2 := c_szNoteS z2 (r1) qz2 u2
  have d2 := szG_le (.sl 2 sh_Note) [.sl 2 z2] (r1) u2.1
  generalize g2 : szG (.sl 2 sh_Note) [.sl 2 z2] (r1) = r2 at c2 d2
  by_cases h2 : r2 < 0
  · have hE : R = -1 := hR.trans ((two_pos (x := [.sl 14 z0]) (y := [.sl 6 z1, .sl 2 z2, .sl 7 z3, .sl 1 z4, .sl 1 z5]) rfl g0 h0).trans ((two_pos (x := [.sl 6 z1]) (y := [.sl 2 z2, .sl 7 z3, .sl 1 z4, .sl 1 z5]) rfl g1 h1).trans (two_neg (x := [.sl 2 z2]) (y := [.sl 7 z3, .sl 1 z4, .sl 1 z5]) rfl g2 h2)))
    rw [hE]
    clear hR hE
    refine ct_intro ttE_ok 1 rfl Tryz.func4 rfl rfl rfl ?_
    repeat ((try conv => whnf); first | (refine ccA ([]) (c0) ?_) | (refine ccA ([]) (c1) ?_) | (refine ccA ([]) (c2) ?_) | (refine stpQ ?_))
    (refine ans_auto (by rfl) ?_ ?_ (by rfl)) <;> (repeat' (first | (exact eqA) | (refine And.intro ?_ ?_) | ((fail_if_success (with_reducible (show _ = _))); (show _ = _))))
  have u3 : 0 ≤ r2 ∧ r2 ≤ 1048576 := by omega
  have c3 := c_szGivenS z3 (r2) qz3 u3
  have d3 := szG_le (.sl 7 sh_Given) [.sl 7 z3] (r2) u3.1
  generalize g3 : szG (.sl 7 sh_Given) [.sl 7 z3] (r2) = r3 at c3 d3
  by_cases h3 : r3 < 0
  · have hE : R = -1 := hR.trans ((two_pos (x := [.sl 14 z0]) (y := [.sl 6 z1, .sl 2 z2, .sl 7 z3, .sl 1 z4, .sl 1 z5]) rfl g0 h0).trans ((two_pos (x := [.sl 6 z1]) (y := [.sl 2 z2, .sl 7 z3, .sl 1 z4, .sl 1 z5]) rfl g1 h1).trans ((two_pos (x := [.sl 2 z2]) (y := [.sl 7 z3, .sl 1 z4, .sl 1 z5]) rfl g2 h2).trans (two_neg (x := [.sl 7 z3]) (y := [.sl 1 z4, .sl 1 z5]) rfl g3 h3))))
    rw [hE]
    clear hR hE
    refine ct_intro ttE_ok 1 rfl Tryz.func4 rfl rfl rfl ?_
    repeat ((try conv => whnf); first | (refine ccA ([]) (c0) ?_) | (refine ccA ([]) (c1) ?_) | (refine ccA ([]) (c2) ?_) | (refine ccA ([]) (c3) ?_) | (refine stpQ ?_))
    (refine ans_auto (by rfl) ?_ ?_ (by rfl)) <;> (repeat' (first | (exact eqA) | (refine And.intro ?_ ?_) | ((fail_if_success (with_reducible (show _ = _))); (show _ = _))))
  have u4 : 0 ≤ r3 ∧ r3 ≤ 1048576 := by omega
  have c4 := c_szBoolS z4 (r3) qz4 u4
  have d4 := szG_le (.sl 1 .bool) [.sl 1 z4] (r3) u4.1
  generalize g4 : szG (.sl 1 .bool) [.sl 1 z4] (r3) = r4 at c4 d4
  by_cases h4 : r4 < 0
  · have hE : R = -1 := hR.trans ((two_pos (x := [.sl 14 z0]) (y := [.sl 6 z1, .sl 2 z2, .sl 7 z3, .sl 1 z4, .sl 1 z5]) rfl g0 h0).trans ((two_pos (x := [.sl 6 z1]) (y := [.sl 2 z2, .sl 7 z3, .sl 1 z4, .sl 1 z5]) rfl g1 h1).trans ((two_pos (x := [.sl 2 z2]) (y := [.sl 7 z3, .sl 1 z4, .sl 1 z5]) rfl g2 h2).trans ((two_pos (x := [.sl 7 z3]) (y := [.sl 1 z4, .sl 1 z5]) rfl g3 h3).trans (two_neg (x := [.sl 1 z4]) (y := [.sl 1 z5]) rfl g4 h4)))))
    rw [hE]
    clear hR hE
    refine ct_intro ttE_ok 1 rfl Tryz.func4 rfl rfl rfl ?_
    repeat ((try conv => whnf); first | (refine ccA ([]) (c0) ?_) | (refine ccA ([]) (c1) ?_) | (refine ccA ([]) (c2) ?_) | (refine ccA ([]) (c3) ?_) | (refine ccA ([]) (c4) ?_) | (refine stpQ ?_))
    (refine ans_auto (by rfl) ?_ ?_ (by rfl)) <;> (repeat' (first | (exact eqA) | (refine And.intro ?_ ?_) | ((fail_if_success (with_reducible (show _ = _))); (show _ = _))))
  have u5 : 0 ≤ r4 ∧ r4 ≤ 1048576 := by omega
  have c5 := c_szIntS z5 (r4) qz5 u5
  have d5 := szG_le (.sl 1 .int) [.sl 1 z5] (r4) u5.1
  generalize g5 : szG (.sl 1 .int) [.sl 1 z5] (r4) = r5 at c5 d5
  by_cases h5 : r5 < 0
  · have hE : R = -1 := hR.trans ((two_pos (x := [.sl 14 z0]) (y := [.sl 6 z1, .sl 2 z2, .sl 7 z3, .sl 1 z4, .sl 1 z5]) rfl g0 h0).trans ((two_pos (x := [.sl 6 z1]) (y := [.sl 2 z2, .sl 7 z3, .sl 1 z4, .sl 1 z5]) rfl g1 h1).trans ((two_pos (x := [.sl 2 z2]) (y := [.sl 7 z3, .sl 1 z4, .sl 1 z5]) rfl g2 h2).trans ((two_pos (x := [.sl 7 z3]) (y := [.sl 1 z4, .sl 1 z5]) rfl g3 h3).trans ((two_pos (x := [.sl 1 z4]) (y := [.sl 1 z5]) rfl g4 h4).trans (two_neg (x := [.sl 1 z5]) (y := []) rfl g5 h5))))))
    rw [hE]
    clear hR hE
    refine ct_intro ttE_ok 1 rfl Tryz.func4 rfl rfl rfl ?_
    repeat ((try conv => whnf); first | (refine ccA ([]) (c0) ?_) | (refine ccA ([]) (c1) ?_) | (refine ccA ([]) (c2) ?_) | (refine ccA ([]) (c3) ?_) | (refine ccA ([]) (c4) ?_) | (refine ccA ([]) (c5) ?_) | (refine stpQ ?_))
    (refine ans_auto (by rfl) ?_ ?_ (by rfl)) <;> (repeat' (first | (exact eqA) | (refine And.intro ?_ ?_) | ((fail_if_success (with_reducible (show _ = _))); (show _ = _))))
  have hE : R = r5 := hR.trans ((two_pos (x := [.sl 14 z0]) (y := [.sl 6 z1, .sl 2 z2, .sl 7 z3, .sl 1 z4, .sl 1 z5]) rfl g0 h0).trans ((two_pos (x := [.sl 6 z1]) (y := [.sl 2 z2, .sl 7 z3, .sl 1 z4, .sl 1 z5]) rfl g1 h1).trans ((two_pos (x := [.sl 2 z2]) (y := [.sl 7 z3, .sl 1 z4, .sl 1 z5]) rfl g2 h2).trans ((two_pos (x := [.sl 7 z3]) (y := [.sl 1 z4, .sl 1 z5]) rfl g3 h3).trans ((two_pos (x := [.sl 1 z4]) (y := [.sl 1 z5]) rfl g4 h4).trans ((two_pos (x := [.sl 1 z5]) (y := []) rfl g5 h5).trans (rfl)))))))
  rw [hE]
  clear hR hE
  refine ct_intro ttE_ok 1 rfl Tryz.func4 rfl rfl rfl ?_
  repeat ((try conv => whnf); first | (refine ccA ([]) (c0) ?_) | (refine ccA ([]) (c1) ?_) | (refine ccA ([]) (c2) ?_) | (refine ccA ([]) (c3) ?_) | (refine ccA ([]) (c4) ?_) | (refine ccA ([]) (c5) ?_) | (refine stpQ ?_))
  (refine ans_auto (by rfl) ?_ ?_ (by rfl)) <;> (repeat' (first | (exact eqA) | (refine And.intro ?_ ?_) | ((fail_if_success (with_reducible (show _ = _))); (show _ = _))))
end Go.Proofs.YtfgfkhmldlpmkaaGreatDoor
