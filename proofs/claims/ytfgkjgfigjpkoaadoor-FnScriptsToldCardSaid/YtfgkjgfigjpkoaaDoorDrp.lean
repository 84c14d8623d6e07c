/- How a list of events is drawn. -/
import Derived.Test.YtfgkjgfigjpkoaaDoorDrw
namespace Go.Proofs.YtfgkjgfigjpkoaaDoor
set_option linter.unusedVariables false
set_option linter.unusedSimpArgs false
set_option linter.unusedSectionVars false
open Go.RowKit Pl
theorem z0m (l : List Evt) (e : Evt) : evE (l ++ [e]) = evE l ++ [evC e] := zaC _ _
def dk11 : List Int := [1, 2, 5, 5, 5, 5, 5, 5, 0, 0, 0]
def Bel (c : Bs) (i : Nat) (h : Int) (n x i' : Nat) (h' : Int) : Prop := x < n ∧ i' ≤ c.length ∧ CT Tryd.prog 19 [curE c i h] [.ptr 1 0 0, .int .i64 (n : Int)] (.int .i64 (x : Int)) [curE c i' h']
def Onc (c : Bs) (i : Nat) (h : Int) (n : Nat) (x : Bool) (i' : Nat) (h' : Int) : Prop := i' ≤ c.length ∧ CT Tryd.prog 20 [curE c i h] [.ptr 1 0 0, .int .i64 (n : Int)] (.bool x) [curE c i' h']
def Txt (c : Bs) (i : Nat) (h : Int) (n : Nat) (t : Bs) (i' : Nat) (h' : Int) : Prop := t.length = n ∧ i' ≤ c.length ∧ CT Tryd.prog 49 [curE c i h] [.ptr 1 0 0, .int .i64 (n : Int)] (.str t) [curE c i' h']
inductive B1 (c : Bs) (n wr k : Nat) (i : Nat) (h : Int) : Evt → Nat → Int → Prop
 | ev {i1 h1 e i2 h2} : Bel c i h wr 0 i1 h1 → EvG e → i2 ≤ c.length → CT Tryd.prog 47 [curE c i1 h1] [.ptr 1 0 0, .int .i64 (n : Int)] (.agg (evC e)) [curE c i2 h2] → B1 c n wr k i h e i2 h2
 | tell {x i1 h1} : Bel c i h wr x i1 h1 → x ≠ 0 → k % 11 = 8 → B1 c n wr k i h { k := 2, h := ((k / 11 % n : Nat) : Int) } i1 h1
 | note {x i1 h1} : Bel c i h wr x i1 h1 → x ≠ 0 → 8 < k % 11 → B1 c n wr k i h { k := 3, h := ((k / 11 % n : Nat) : Int) } i1 h1
 | take {x i1 h1 ci cn cv i2 h2} : Bel c i h wr x i1 h1 → x ≠ 0 → k % 11 = 0 → ChG ci cn cv → i2 ≤ c.length → CT Tryd.prog 48 [curE c i1 h1] [.ptr 1 0 0] (.agg [.int .i64 ci, .str cn, .str cv]) [curE c i2 h2] →
    B1 c n wr k i h { k := 1, h := ((k / 11 % n : Nat) : Int), mk := 1, ci := ci, cn := cn, cv := cv } i2 h2
 | beg {x i1 h1} : Bel c i h wr x i1 h1 → x ≠ 0 → k % 11 = 1 → B1 c n wr k i h { k := 1, h := ((k / 11 % n : Nat) : Int), mk := 2 } i1 h1
 | car {x i1 h1} : Bel c i h wr x i1 h1 → x ≠ 0 → 2 ≤ k % 11 → k % 11 ≤ 7 → B1 c n wr k i h { k := 1, h := ((k / 11 % n : Nat) : Int), mk := 5 } i1 h1
inductive B2 (c : Bs) (n : Nat) (e : Evt) (i : Nat) (h : Int) : Evt → Nat → Int → Prop
 | no {i1 h1} : Onc c i h 12 false i1 h1 → B2 c n e i h e i1 h1
 | yes {i1 h1 b i2 h2 d i3 h3 t i4 h4} : Onc c i h 12 true i1 h1 → Bel c i1 h1 n b i2 h2 → Bel c i2 h2 4 d i3 h3 → Txt c i3 h3 2 t i4 h4 → B2 c n e i h { k := 6, h := (b : Int), a := (d : Int), tx := t } i4 h4
inductive B3 (c : Bs) (n : Nat) (e : Evt) (i : Nat) (h : Int) : Evt → Nat → Int → Prop
 | no {i1 h1} : Onc c i h 20 false i1 h1 → B3 c n e i h e i1 h1
 | yes {i1 h1 b i2 h2 t i3 h3} : Onc c i h 20 true i1 h1 → Bel c i1 h1 n b i2 h2 → Txt c i2 h2 12 t i3 h3 → B3 c n e i h { k := 5, h := (b : Int), tx := t } i3 h3
theorem z1p (c : Bs) (i : Nat) (h : Int) (n : Nat) (hc : (c.length : Int) ≤ 1048576) (hi : i ≤ c.length) (hn : 0 < n ∧ n ≤ 256) : ∃ x i' h', Bel c i h n x i' h' := z0X c i h n hc hi hn
theorem z9c (c : Bs) (i : Nat) (h : Int) (n : Nat) (hc : (c.length : Int) ≤ 1048576) (hi : i ≤ c.length) (hn : 0 < n) : ∃ x i' h', Onc c i h n x i' h' := z99 c i h n hc hi hn
theorem zaK (c : Bs) (i : Nat) (h : Int) (n : Nat) (hc : (c.length : Int) ≤ 1048576) (hi : i ≤ c.length) (hn : n ≤ 5000) : ∃ x i' h', Txt c i h n x i' h' := c_text c i h n hc hi hn
theorem ev0 {k h : Nat} (hk : 1 ≤ k ∧ k ≤ 8) (hh : h ≤ 1000) {mk : Nat} (hm : mk ≤ 10) : EvG { k := (k : Int), h := (h : Int), mk := (mk : Int) } := ⟨⟨k, rfl, hk.1, hk.2⟩, natB h hh, natB 0 (by decide), ⟨⟨mk, rfl, hm⟩, natB 0 (by decide), natB 0 (by decide), chg0⟩, Nat.zero_le _⟩
theorem b1_ex (c : Bs) (n wr k : Nat) (i : Nat) (h : Int) (hc : (c.length : Int) ≤ 1048576) (hi : i ≤ c.length) (hn : 0 < n ∧ n ≤ 3) (hw : 0 < wr ∧ wr ≤ 256) : ∃ e i' h', B1 c n wr k i h e i' h' ∧ EvG e ∧ i' ≤ c.length := by
 obtain ⟨x, i1, h1, hb⟩ := z1p c i h wr hc hi hw
 have hh : k / 11 % n ≤ 1000 := by have := Nat.mod_lt (k / 11) hn.1; omega
 by_cases hx : x = 0
 ·subst hx
  obtain ⟨e, i2, h2, he, hi2, ke⟩ := zab c i1 h1 n hc hb.2.1 hn
  exact ⟨e, i2, h2, .ev hb he hi2 ke, he, hi2⟩
 ·have hk : k % 11 < 11 := Nat.mod_lt _ (by decide)
  by_cases k8 : k % 11 = 8
  ·exact ⟨_, i1, h1, .tell hb hx k8, ev0 (k := 2) (mk := 0) (by decide) hh (by decide), hb.2.1⟩
  by_cases k9 : 8 < k % 11
  ·exact ⟨_, i1, h1, .note hb hx k9, ev0 (k := 3) (mk := 0) (by decide) hh (by decide), hb.2.1⟩
  by_cases k0 : k % 11 = 0
  ·obtain ⟨ci, cn, cv, i2, h2, hu, hi2, ku⟩ := z6R c i1 h1 hc hb.2.1
   exact ⟨_, i2, h2, .take hb hx k0 hu hi2 ku, ⟨⟨1, rfl, by decide, by decide⟩, natB _ hh, natB 0 (by decide), ⟨⟨1, rfl, by decide⟩, natB 0 (by decide), natB 0 (by decide), hu⟩, Nat.zero_le _⟩, hi2⟩
  by_cases k1 : k % 11 = 1
  ·exact ⟨_, i1, h1, .beg hb hx k1, ev0 (k := 1) (mk := 2) (by decide) hh (by decide), hb.2.1⟩
  ·exact ⟨_, i1, h1, .car hb hx (by omega) (by omega), ev0 (k := 1) (mk := 5) (by decide) hh (by decide), hb.2.1⟩
theorem evT {k h a : Nat} {t : Bs} (hk : 1 ≤ k ∧ k ≤ 8) (hh : h ≤ 1000) (ha : a ≤ 1000) (ht : t.length ≤ 20) : EvG { k := (k : Int), h := (h : Int), a := (a : Int), tx := t } := ⟨⟨k, rfl, hk.1, hk.2⟩, natB h hh, natB a ha, ⟨⟨0, rfl, by decide⟩, natB 0 (by decide), natB 0 (by decide), chg0⟩, ht⟩
theorem b2_ex (c : Bs) (n : Nat) (e : Evt) (i : Nat) (h : Int) (hc : (c.length : Int) ≤ 1048576) (hi : i ≤ c.length) (hn : 0 < n ∧ n ≤ 3) (he : EvG e) : ∃ e' i' h', B2 c n e i h e' i' h' ∧ EvG e' ∧ i' ≤ c.length := by
 obtain ⟨x, i1, h1, hb⟩ := z9c c i h 12 hc hi (by decide)
 cases x with
 | false => exact ⟨e, i1, h1, .no hb, he, hb.1⟩
 | true =>
   obtain ⟨b, i2, h2, kb⟩ := z1p c i1 h1 n hc hb.1 (by omega)
   obtain ⟨d, i3, h3, kd⟩ := z1p c i2 h2 4 hc kb.2.1 (by decide)
   obtain ⟨t, i4, h4, kt⟩ := zaK c i3 h3 2 hc kd.2.1 (by decide)
   have q1 := kb.1
   have q2 := kd.1
   have q3 := kt.1
   exact ⟨_, i4, h4, .yes hb kb kd kt, evT (k := 6) (by decide) (by omega) (by omega) (by omega), kt.2.1⟩
theorem b3_ex (c : Bs) (n : Nat) (e : Evt) (i : Nat) (h : Int) (hc : (c.length : Int) ≤ 1048576) (hi : i ≤ c.length) (hn : 0 < n ∧ n ≤ 3) (he : EvG e) : ∃ e' i' h', B3 c n e i h e' i' h' ∧ EvG e' ∧ i' ≤ c.length := by
 obtain ⟨x, i1, h1, hb⟩ := z9c c i h 20 hc hi (by decide)
 cases x with
 | false => exact ⟨e, i1, h1, .no hb, he, hb.1⟩
 | true =>
   obtain ⟨b, i2, h2, kb⟩ := z1p c i1 h1 n hc hb.1 (by omega)
   obtain ⟨t, i3, h3, kt⟩ := zaK c i2 h2 12 hc kb.2.1 (by decide)
   have q1 := kb.1
   have q3 := kt.1
   exact ⟨_, i3, h3, .yes hb kb kt, evT (k := 5) (a := 0) (by decide) (by omega) (by decide) (by omega), kt.2.1⟩
inductive E0 (c : Bs) (n wr m : Nat) : Nat → Nat → Int → List Evt → List Evt → Nat → Int → Prop
 | stop {i h out} : E0 c n wr m m i h out out i h
 | step {k i h out e i1 h1 L i' h'} : k < m → B1 c n wr k i h e i1 h1 → E0 c n wr m (k + 1) i1 h1 (out ++ [e]) L i' h' → E0 c n wr m k i h out L i' h'
inductive E1 (c : Bs) (n wr m : Nat) : Nat → Nat → Int → List Evt → List Evt → Nat → Int → Prop
 | stop {i h out} : E1 c n wr m m i h out out i h
 | step {k i h out e i1 h1 e2 i2 h2 e3 i3 h3 L i' h'} : k < m → B1 c n wr k i h e i1 h1 → B2 c n e i1 h1 e2 i2 h2 → B3 c n e2 i2 h2 e3 i3 h3 → E1 c n wr m (k + 1) i3 h3 (out ++ [e3]) L i' h' → E1 c n wr m k i h out L i' h'
theorem z9d {P : Evt → Prop} {l : List Evt} {e : Evt} (h : ∀ x ∈ l, P x) (he : P e) : ∀ x ∈ l ++ [e], P x := fun x hx => by
 rcases List.mem_append.1 hx with hx | hx
 ·exact h x hx
 ·rw [List.mem_singleton.1 hx]; exact he
theorem zbL (c : Bs) (n wr m : Nat) (hc : (c.length : Int) ≤ 1048576) (hn : 0 < n ∧ n ≤ 3) (hw : 0 < wr ∧ wr ≤ 256) : ∀ (f k i : Nat) (h : Int) (out : List Evt), k + f = m → i ≤ c.length → (∀ e ∈ out, EvG e) → out.length = k →
 ∃ L i' h', E0 c n wr m k i h out L i' h' ∧ (∀ e ∈ L, EvG e) ∧ L.length = m ∧ i' ≤ c.length
 | 0, k, i, h, out, hf, hi, ho, hl => by
   obtain rfl : k = m := by omega
   exact ⟨out, i, h, .stop, ho, hl, hi⟩
 | f + 1, k, i, h, out, hf, hi, ho, hl => by
   obtain ⟨e, i1, h1, b1, he, hi1⟩ := b1_ex c n wr k i h hc hi hn hw
   obtain ⟨L, i', h', hZ, hL, hl', hi'⟩ := zbL c n wr m hc hn hw f (k + 1) i1 h1 (out ++ [e]) (by omega) hi1 (z9d ho he) (by simp [hl])
   exact ⟨L, i', h', .step (by omega) b1 hZ, hL, hl', hi'⟩
theorem zbM (c : Bs) (n wr m : Nat) (hc : (c.length : Int) ≤ 1048576) (hn : 0 < n ∧ n ≤ 3) (hw : 0 < wr ∧ wr ≤ 256) : ∀ (f k i : Nat) (h : Int) (out : List Evt), k + f = m → i ≤ c.length → (∀ e ∈ out, EvG e) → out.length = k →
 ∃ L i' h', E1 c n wr m k i h out L i' h' ∧ (∀ e ∈ L, EvG e) ∧ L.length = m ∧ i' ≤ c.length
 | 0, k, i, h, out, hf, hi, ho, hl => by
   obtain rfl : k = m := by omega
   exact ⟨out, i, h, .stop, ho, hl, hi⟩
 | f + 1, k, i, h, out, hf, hi, ho, hl => by
   obtain ⟨e, i1, h1, b1, he, hi1⟩ := b1_ex c n wr k i h hc hi hn hw
   obtain ⟨e2, i2, h2, b2, he2, hi2⟩ := b2_ex c n e i1 h1 hc hi1 hn he
   obtain ⟨e3, i3, h3, b3, he3, hi3⟩ := b3_ex c n e2 i2 h2 hc hi2 hn he2
   obtain ⟨L, i', h', hZ, hL, hl', hi'⟩ := zbM c n wr m hc hn hw f (k + 1) i3 h3 (out ++ [e3]) (by omega) hi3 (z9d ho he3) (by simp [hl])
   exact ⟨L, i', h', .step (by omega) b1 b2 b3 hZ, hL, hl', hi'⟩
theorem z0y : ∀ j, j < 11 → (intE dk11)[j]? = some [.int .i64 (dk11.getD j 0)] := fun j hj => z9a hj
theorem z1E : ∀ j, j < 11 → 8 ≤ j → dk11.getD j 0 = 0 := by decide
theorem z3X : ∀ j, j < 11 → 2 ≤ j → j ≤ 7 → dk11.getD j 0 = 5 := by decide
def z1s (c : Bs) : Nat := if 86 < 24 + c.length / 3 then 86 else 24 + c.length / 3
theorem z1d (c : Bs) : z1s c ≤ 86 := by unfold z1s; split <;> omega
end Go.Proofs.YtfgkjgfigjpkoaaDoor
