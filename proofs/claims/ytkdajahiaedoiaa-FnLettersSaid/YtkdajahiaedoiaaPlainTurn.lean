/- Plain: a sealed text with one byte turned is sealed no more; letters are read as they were written. -/
import Derived.Test.YtkdajahiaedoiaaPlainLetter
import Derived.Test.YtkdajahiaedoiaaPlainEnc
namespace Go.Proofs.Ytkdajahiaedoiaa.Pl
set_option linter.unusedVariables false
theorem half_bit {x : Nat} (h : x < 2147483648) : x.testBit 31 = false := Nat.testBit_lt_two_pow (by simpa using h)
theorem step1_top {a : Nat} (h : a ≤ 4294967295) : (step1 a).testBit 31 = decide (a % 2 = 1) := by
  unfold step1
  split
  · rename_i h1
    rw [Nat.testBit_xor, half_bit (by omega), h1]; decide
  · rename_i h1
    rw [half_bit (by omega)]; simp [h1]
theorem xor_cancel {x y p : Nat} (h : x ^^^ p = y ^^^ p) : x = y := by
  have := congrArg (· ^^^ p) h
  simpa [Nat.xor_assoc] using this
theorem step1_inj {a b : Nat} (ha : a ≤ 4294967295) (hb : b ≤ 4294967295) (h : step1 a = step1 b) : a = b := by
  have ht := congrArg (·.testBit 31) h
  simp only [step1_top ha, step1_top hb, decide_eq_decide] at ht
  unfold step1 at h
  by_cases h1 : a % 2 = 1
  · rw [if_pos h1, if_pos (ht.1 h1)] at h
    have := xor_cancel h
    have := ht.1 h1
    omega
  · rw [if_neg h1, if_neg (fun h2 => h1 (ht.2 h2))] at h
    have : ¬ b % 2 = 1 := fun h2 => h1 (ht.2 h2)
    omega
theorem stepN_le {a : Nat} (ha : a ≤ 4294967295) (n : Nat) : stepN n a ≤ 4294967295 := by have := stepN_lt (a := a) (by omega) n; omega
theorem stepN_inj : ∀ (n : Nat) {a b : Nat}, a ≤ 4294967295 → b ≤ 4294967295 → stepN n a = stepN n b → a = b
  | 0, a, b, _, _, h => h
  | n + 1, a, b, ha, hb, h => stepN_inj n ha hb (step1_inj (stepN_le ha n) (stepN_le hb n) h)
theorem xor_le8 {s : Nat} {b : UInt8} (h : s ≤ 4294967295) : s ^^^ b.toNat ≤ 4294967295 := by
  have := xor_lt (a := s) (b := b.toNat) (by omega) (by have := b.toNat_lt; omega)
  omega
theorem sumMore_inj : ∀ {l : Bs} {s t : Nat}, s ≤ 4294967295 → t ≤ 4294967295 → sumMore s l = sumMore t l → s = t
  | [], s, t, _, _, h => h
  | b :: l, s, t, hs, ht, h => by
    have h2 := sumMore_inj (l := l) (stepN_le (xor_le8 hs) 8) (stepN_le (xor_le8 ht) 8) h
    exact xor_cancel (stepN_inj 8 (xor_le8 hs) (xor_le8 ht) h2)
theorem sumMore_app (s : Nat) (a b : Bs) : sumMore s (a ++ b) = sumMore (sumMore s a) b := by simp [sumMore]
theorem sum_le (l : Bs) : sumMore 4294967295 l ≤ 4294967295 := by have := sumOf_lt l; unfold sumOf at this; omega
theorem sum_turned {p q : Bs} {b c : UInt8} (h : b ≠ c) : sumOf (p ++ b :: q) ≠ sumOf (p ++ c :: q) := by
  intro e
  unfold sumOf at e
  rw [sumMore_app, sumMore_app] at e
  have hs := sum_le p
  have e2 := sumMore_inj (l := q) (stepN_le (xor_le8 (b := b) hs) 8) (stepN_le (xor_le8 (b := c) hs) 8) e
  have e3 := stepN_inj 8 (xor_le8 hs) (xor_le8 hs) e2
  rw [Nat.xor_comm _ b.toNat, Nat.xor_comm _ c.toNat] at e3
  exact h (UInt8.toNat_inj.1 (xor_cancel e3))
theorem fourB_inj {x y : Nat} (hx : x ≤ 4294967295) (hy : y ≤ 4294967295) (h : fourB x = fourB y) : x = y := by
  simp only [fourB, List.cons.injEq, and_true] at h
  have key : ∀ {a b : Nat}, UInt8.ofNat a = UInt8.ofNat b → a % 256 = b % 256 := fun h => by
    have := congrArg UInt8.toNat h
    simpa using this
  have h1 := key h.1
  have h2 := key h.2.1
  have h3 := key h.2.2.1
  have h4 := key h.2.2.2
  omega
/-- One byte turned: not sealed. -/
theorem turned_no {s : Bs} {i : Nat} {c : UInt8} (hi : i < (sealed s).length) (hc : c ≠ (sealed s).getD i 0) : unsealed ((sealed s).set i c) = none := by
  have hl : (sealed s).length = s.length + 4 := by simp [sealed, fourB_len]
  unfold unsealed
  rw [if_neg]
  rintro ⟨_, _, h⟩
  rw [List.length_set, hl, Nat.add_sub_cancel] at h
  by_cases hb : i < s.length
  · have hsp : s = s.take i ++ s.getD i 0 :: s.drop (i + 1) := by
      have : s.drop i = s.getD i 0 :: s.drop (i + 1) := by rw [List.drop_eq_getElem_cons hb]; simp [List.getD, List.getElem?_eq_getElem hb]
      rw [← this, List.take_append_drop]
    have hset : (sealed s).set i c = s.set i c ++ fourB (sumOf s) := by rw [sealed, List.set_append, if_pos hb]
    rw [hset, List.take_left' (by simp), List.drop_left' (by simp)] at h
    have hg : (sealed s).getD i 0 = s.getD i 0 := by simp [sealed, List.getD, List.getElem?_append_left hb]
    rw [hg] at hc
    have hset2 : s.set i c = s.take i ++ c :: s.drop (i + 1) := by rw [List.set_eq_take_append_cons_drop, if_pos hb]
    have e := fourB_inj (sum_le _) (sum_le _) h
    rw [show sumMore 4294967295 s = sumOf s from rfl] at e
    have h3 := sum_turned (p := s.take i) (q := s.drop (i + 1)) (b := s.getD i 0) (c := c) (fun e => hc e.symm)
    rw [← hsp, ← hset2] at h3
    exact h3 e
  · have hset : (sealed s).set i c = s ++ (fourB (sumOf s)).set (i - s.length) c := by rw [sealed, List.set_append, if_neg hb]
    rw [hset, List.take_left, List.drop_left] at h
    have hj : i - s.length < (fourB (sumOf s)).length := by rw [fourB_len]; omega
    have hg : (sealed s).getD i 0 = (fourB (sumOf s)).getD (i - s.length) 0 := by simp [sealed, List.getD, List.getElem?_append_right (show s.length ≤ i by omega)]
    have h2 := congrArg (fun l => l.getD (i - s.length) 0) h
    simp only [List.getD, List.getElem?_set_self hj, Option.getD_some] at h2
    exact hc (by rw [hg]; exact h2)
end Go.Proofs.Ytkdajahiaedoiaa.Pl
