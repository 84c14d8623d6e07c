/- Plain: proofs are read as they were written, by the program and by the reference alike. -/
import Derived.Test.YtkdajahiaedoiaaPlainPut
namespace Go.Proofs.Ytkdajahiaedoiaa.Pl
set_option linter.unusedVariables false
/-! ### entries from any place on -/
theorem leavesI_enc {t : Bs} {p q : Nat} {b : Bool} {l : List Lf} (h : leavesI t p b = (l, q, false)) (hp : p ≤ t.length) : b = false ∧ leavesOk l = true ∧ q ≤ t.length ∧ t.drop p = leavesText l ++ t.drop q := by
  unfold leavesI at h
  rcases hN : numOf t p b with ⟨n, p1, b1⟩
  have hle := (numOf_le (t := t) (p := p) (bad := b) hp).1
  rw [hN] at h hle
  simp only at h hle
  rcases hL : lvLoop (shortOf t) n p1 (if 24 < n then true else b1) with ⟨l', q', b'⟩
  rw [hL] at h
  simp only [Prod.mk.injEq, Bool.or_eq_false_iff] at h
  obtain ⟨rfl, rfl, rfl, ho⟩ := h
  have ho : leavesOk l' = true := by simpa using ho
  by_cases h24 : 24 < n
  · rw [if_pos h24, lvLoop_bad] at hL; cases hL
  · rw [if_neg h24] at hL
    cases b1 with
    | true => rw [lvLoop_bad] at hL; cases hL
    | false =>
      obtain ⟨rfl, _, e1, _⟩ := numOf_enc hN
      obtain ⟨e2, e3, e4⟩ := lvLoop_enc hL hle
      exact ⟨rfl, ho, e3, by rw [e1, e4, leavesText, e2, List.append_assoc]⟩
theorem leavesI_dec {t : Bs} {p : Nat} {l : List Lf} {r : Bs} (ho : leavesOk l = true) (h : t.drop p = leavesText l ++ r) : leavesI t p false = (l, p + (leavesText l).length, false) := by
  obtain ⟨h1, h2, _⟩ := ok_sorted ho
  have h0 : t.drop p = varText l.length ++ (l.flatMap lfText ++ r) := by rw [h, leavesText, List.append_assoc]
  have hN := numOf_dec (by omega) h0 false
  have hd : t.drop (p + (varText l.length).length) = l.flatMap lfText ++ r := by rw [← List.drop_drop, h0, List.drop_left]
  have hL := lvLoop_dec (fun x hx => by have := nameOk_len (h2 x hx).1; have := valueOk_len (h2 x hx).2; omega) hd
  have hno : ¬ 24 < l.length := by omega
  simp only [leavesI, hN, if_neg hno, hL, ho]
  simp [leavesText, Nat.add_assoc]
theorem leavesS_dec {t : Bs} {p : Nat} {l : List Lf} {r : Bs} (ho : leavesOk l = true) (h : t.drop p = leavesText l ++ r) : leavesS t p false = (l, p + (leavesText l).length, false) := by
  obtain ⟨h1, h2, _⟩ := ok_sorted ho
  have h0 : t.drop p = varText l.length ++ (l.flatMap lfText ++ r) := by rw [h, leavesText, List.append_assoc]
  have hN := numOf_dec (by omega) h0 false
  have hd : t.drop (p + (varText l.length).length) = l.flatMap lfText ++ r := by rw [← List.drop_drop, h0, List.drop_left]
  have hL := lvLoop_dec (fun x hx => by have := nameOk_len (h2 x hx).1; have := valueOk_len (h2 x hx).2; omega) hd
  have hmin : min l.length 30 = l.length := by omega
  simp only [leavesS, numS_good, hN, hmin]
  rcases lvLoop_agree t l.length (p + (varText l.length).length) false with hb | he
  · rw [hL] at hb; cases hb.1
  · rw [← he, hL]; simp [leavesText, Nat.add_assoc]

/-! ### hashes -/
def hashL (t : Bs) (w : Nat) : Nat → Nat → Bool → List Bs × Nat × Bool
  | 0, p, b => ([], p, b)
  | n + 1, p, b => ((bytesOf t p b w).1 :: (hashL t w n (bytesOf t p b w).2.1 (bytesOf t p b w).2.2).1, (hashL t w n (bytesOf t p b w).2.1 (bytesOf t p b w).2.2).2)
def sideL (t : Bs) (w : Int) : Nat → Nat → Bool → List Bs × Nat × Bool
  | 0, p, b => ([], p, b)
  | _ + 1, p, true => ([], p, true)
  | n + 1, p, false => ((takeOf t p false w).1 :: (sideL t w n (takeOf t p false w).2.1 (takeOf t p false w).2.2).1, (sideL t w n (takeOf t p false w).2.1 (takeOf t p false w).2.2).2)
theorem bytesOf_bad (t : Bs) (p w : Nat) : bytesOf t p true w = ([], p, true) := by simp [bytesOf]
theorem hashL_bad (t : Bs) (w : Nat) : ∀ (n p : Nat), (hashL t w n p true).2.2 = true
  | 0, p => rfl
  | n + 1, p => by simp only [hashL, bytesOf_bad]; exact hashL_bad t w n p
theorem hashL_enc {t : Bs} {w : Nat} : ∀ {n p q : Nat} {b : Bool} {s : List Bs}, hashL t w n p b = (s, q, false) → p ≤ t.length → b = false ∧ s.length = n ∧ (∀ x ∈ s, x.length = w) ∧ q ≤ t.length ∧ t.drop p = s.flatten ++ t.drop q
  | 0, p, q, b, s, h, hp => by
    simp only [hashL, Prod.mk.injEq] at h
    obtain ⟨rfl, rfl, rfl⟩ := h
    exact ⟨rfl, rfl, fun x hx => absurd hx (List.not_mem_nil), hp, by simp⟩
  | n + 1, p, q, b, s, h, hp => by
    by_cases hc : b = true ∨ t.length - p < w
    · have e : bytesOf t p b w = ([], p, true) := by rw [bytesOf, if_pos hc]
      simp only [hashL, e] at h
      have := hashL_bad t w n p
      have h2 := congrArg (fun x => x.2.2) h
      simp only at h2
      rw [this] at h2; cases h2
    · have e : bytesOf t p b w = ((t.drop p).take w, p + w, b) := by rw [bytesOf, if_neg hc]
      have hb : b = false := by cases b <;> simp at hc ⊢
      have hw : ¬ t.length - p < w := fun h => hc (.inr h)
      simp only [hashL, e] at h
      rcases hR : hashL t w n (p + w) b with ⟨s', q', b'⟩
      rw [hR] at h
      simp only [Prod.mk.injEq] at h
      obtain ⟨rfl, rfl, rfl⟩ := h
      obtain ⟨_, i2, i3, i4, i5⟩ := hashL_enc hR (by omega)
      refine ⟨hb, by simp [i2], fun x hx => ?_, i4, ?_⟩
      · rcases List.mem_cons.1 hx with rfl | hx
        · simp; omega
        · exact i3 x hx
      · rw [List.flatten_cons, List.append_assoc, ← i5, ← List.drop_drop, List.take_append_drop]
theorem hashL_dec {t : Bs} {w : Nat} : ∀ {s : List Bs} {p : Nat} {r : Bs}, (∀ x ∈ s, x.length = w) → t.drop p = s.flatten ++ r → hashL t w s.length p false = (s, p + s.flatten.length, false)
  | [], p, r, _, _ => by simp [hashL]
  | x :: s, p, r, hs, h => by
    have hx := hs x (by simp)
    have hl := congrArg List.length h
    simp at hl
    have e : bytesOf t p false w = (x, p + w, false) := by
      rw [bytesOf, if_neg (by simp; omega), h, List.flatten_cons, List.append_assoc, ← hx, List.take_left]
    have hd : t.drop (p + w) = s.flatten ++ r := by rw [← List.drop_drop, h, List.flatten_cons, List.append_assoc, ← hx, List.drop_left]
    have ih := hashL_dec (fun y hy => hs y (by simp [hy])) hd
    rw [List.length_cons, hashL, e]
    simp only [ih]
    simp [hx]; omega
theorem sideL_dec {t : Bs} {w : Nat} : ∀ {s : List Bs} {p : Nat} {r : Bs}, (∀ x ∈ s, x.length = w) → t.drop p = s.flatten ++ r → sideL t (w : Int) s.length p false = (s, p + s.flatten.length, false)
  | [], p, r, _, _ => by simp [sideL]
  | x :: s, p, r, hs, h => by
    have hx := hs x (by simp)
    have hl := congrArg List.length h
    simp at hl
    have e : takeOf t p false (w : Int) = (x, p + w, false) := by
      rw [takeOf, if_neg (by omega), Int.toNat_natCast, bytesOf, if_neg (by simp; omega), h, List.flatten_cons, List.append_assoc, ← hx, List.take_left]
    have hd : t.drop (p + w) = s.flatten ++ r := by rw [← List.drop_drop, h, List.flatten_cons, List.append_assoc, ← hx, List.drop_left]
    have ih := sideL_dec (fun y hy => hs y (by simp [hy])) hd
    rw [List.length_cons, sideL, e]
    simp only [ih]
    simp [hx]; omega

/-! ### proofs -/
def proofText (l : List Lf) (s : List Bs) : Bs := leavesText l ++ (varText s.length ++ s.flatten)
def wideB (s : List Bs) (w : Int) : Bool := s.all (fun x => decide ((x.length : Int) = w)) && inB w 1 32
def proofOkB (l : List Lf) (s : List Bs) (w : Int) : Bool := leavesOk l && decide (s.length ≤ 8) && wideB s w
def readPfI (t : Bs) (w : Nat) : Option (List Lf × List Bs) :=
  let A := leavesI t 0 false
  let B := numOf t A.2.1 A.2.2
  if 8 < B.1 then none else
    let C := hashL t w B.1 B.2.1 B.2.2
    if doneB C.2.2 C.2.1 t.length = true then some (A.1, C.1) else none
def readPfS (t : Bs) (w : Int) : Option (List Lf × List Bs) :=
  let A := leavesS t 0 false
  let B := numS t A.2.1 A.2.2
  let C := sideL t w (min B.1 10) B.2.1 B.2.2
  if C.2.2 = false ∧ proofOkB A.1 C.1 w = true ∧ proofText A.1 C.1 = t then some (A.1, C.1) else none
theorem proofOk_iff {l : List Lf} {s : List Bs} {w : Int} : proofOkB l s w = true ↔ leavesOk l = true ∧ s.length ≤ 8 ∧ (∀ x ∈ s, (x.length : Int) = w) ∧ 1 ≤ w ∧ w ≤ 32 := by
  simp [proofOkB, wideB, inB, and_assoc]
theorem pfI_iff {t : Bs} {w : Nat} (hw : 1 ≤ w ∧ w ≤ 32) {l : List Lf} {s : List Bs} : readPfI t w = some (l, s) ↔ proofOkB l s w = true ∧ t = proofText l s := by
  rw [proofOk_iff]
  constructor
  · intro h
    rcases hA : leavesI t 0 false with ⟨l', p1, b1⟩
    have hp1 := leavesI_le (t := t) (p := 0) (b := false) (by omega)
    rcases hB : numOf t p1 b1 with ⟨n, p2, b2⟩
    rcases hC : hashL t w n p2 b2 with ⟨s', p3, b3⟩
    rw [hA] at hp1
    simp only at hp1
    have hp2 := (numOf_le (t := t) (p := p1) (bad := b1) hp1).1
    rw [hB] at hp2
    simp only at hp2
    simp only [readPfI, hA, hB, hC] at h
    split at h
    · cases h
    · rename_i h8
      split at h
      · rename_i hd
        injection h with h; injection h with e1 e2; subst e1; subst e2
        simp only [doneB, Bool.and_eq_true, Bool.not_eq_true', beq_iff_eq] at hd
        obtain ⟨rfl, rfl⟩ := hd
        obtain ⟨rfl, c2, c3, c4, c5⟩ := hashL_enc hC hp2
        obtain ⟨rfl, _, d1, _⟩ := numOf_enc hB
        obtain ⟨_, a2, a3, a4⟩ := leavesI_enc hA (by omega)
        refine ⟨⟨a2, by omega, fun x hx => by rw [c3 x hx], by omega, by omega⟩, ?_⟩
        rw [List.drop_zero] at a4
        rw [List.drop_length, List.append_nil] at c5
        rw [a4, d1, c5, c2.symm]; rfl
      · cases h
  · rintro ⟨⟨h1, h2, h3, h4, h5⟩, ht⟩
    have hA := leavesI_dec (t := t) (p := 0) h1 (r := varText s.length ++ s.flatten) (by rw [List.drop_zero, ht]; rfl)
    have hd1 : t.drop (0 + (leavesText l).length) = varText s.length ++ s.flatten := by rw [ht, proofText, Nat.zero_add, List.drop_left]
    have hB := numOf_dec (by omega) hd1 false
    have hd2 : t.drop (0 + (leavesText l).length + (varText s.length).length) = s.flatten ++ [] := by rw [← List.drop_drop, hd1, List.drop_left, List.append_nil]
    have hC := hashL_dec (w := w) (fun x hx => by have := h3 x hx; omega) hd2
    have hl : t.length = (leavesText l).length + (varText s.length).length + s.flatten.length := by rw [ht, proofText]; simp [Nat.add_assoc]
    simp only [readPfI, hA, hB, hC, if_neg (show ¬ 8 < s.length by omega)]
    rw [if_pos]
    rw [hl]; simp [doneB]
theorem pfS_iff {t : Bs} {w : Int} {l : List Lf} {s : List Bs} : readPfS t w = some (l, s) ↔ proofOkB l s w = true ∧ t = proofText l s := by
  constructor
  · intro h
    simp only [readPfS] at h
    split at h
    · rename_i hc
      injection h with h; injection h with e1 e2
      rw [e1, e2] at hc
      exact ⟨hc.2.1, hc.2.2.symm⟩
    · cases h
  · rintro ⟨ho, ht⟩
    obtain ⟨h1, h2, h3, h4, h5⟩ := proofOk_iff.1 ho
    obtain ⟨wn, rfl⟩ : ∃ n : Nat, w = n := ⟨w.toNat, by omega⟩
    have hA := leavesS_dec (t := t) (p := 0) h1 (r := varText s.length ++ s.flatten) (by rw [List.drop_zero, ht]; rfl)
    have hd1 : t.drop (0 + (leavesText l).length) = varText s.length ++ s.flatten := by rw [ht, proofText, Nat.zero_add, List.drop_left]
    have hB := numOf_dec (by omega) hd1 false
    have hd2 : t.drop (0 + (leavesText l).length + (varText s.length).length) = s.flatten ++ [] := by rw [← List.drop_drop, hd1, List.drop_left, List.append_nil]
    have hC := sideL_dec (w := wn) (fun x hx => by have := h3 x hx; omega) hd2
    have hmin : min s.length 10 = s.length := by omega
    simp only [readPfS, hA, numS_good, hB, hmin, hC]
    rw [if_pos ⟨trivial, ho, ht.symm⟩]
theorem readPf_agree (t : Bs) {w : Nat} (hw : 1 ≤ w ∧ w ≤ 32) : readPfI t w = readPfS t w := by
  have key : ∀ x : List Lf × List Bs, readPfI t w = some x ↔ readPfS t w = some x := fun x => by
    obtain ⟨l, s⟩ := x
    rw [pfI_iff hw, pfS_iff]
  cases h : readPfI t w with
  | some x => exact ((key x).1 h).symm
  | none =>
    cases h2 : readPfS t w with
    | none => rfl
    | some y => rw [(key y).2 h2] at h; cases h
theorem readPfS_wide {t : Bs} {w : Int} (hw : inB w 1 32 = false) : readPfS t w = none := by
  cases h : readPfS t w with
  | none => rfl
  | some x =>
    obtain ⟨l, s⟩ := x
    have := (pfS_iff.1 h).1
    rw [proofOkB, wideB, hw] at this
    simp at this
end Go.Proofs.Ytkdajahiaedoiaa.Pl
