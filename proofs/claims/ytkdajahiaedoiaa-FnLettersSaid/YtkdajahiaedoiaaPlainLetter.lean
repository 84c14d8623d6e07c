/- Plain: letters. -/
import Derived.Test.YtkdajahiaedoiaaPlainSum
import Derived.Test.YtkdajahiaedoiaaPlainEnc
namespace Go.Proofs.Ytkdajahiaedoiaa.Pl
/-- Does a number lie between two? -/
def inB (n lo hi : Int) : Bool := decide (lo ≤ n) && decide (n ≤ hi)
def letterOk (k f t e y : Int) (r : Bs) : Bool :=
  inB e 1 4 && inB y 1 1000 && (if k = 1 ∨ k = 3 ∨ k = 4 then f == 0 && inB t 1 4 && r.isEmpty else if k = 2 then t == 0 && inB f 1 4 && r.length == 16 else if k = 5 then t == 0 && inB f 1 4 && r.isEmpty else false)

theorem inB_iff {n lo hi : Int} : inB n lo hi = true ↔ lo ≤ n ∧ n ≤ hi := by simp [inB]
theorem letterOk_bounds {k f t e y : Int} {r : Bs} (h : letterOk k f t e y r = true) : (1 ≤ k ∧ k ≤ 5) ∧ (0 ≤ f ∧ f ≤ 4) ∧ (0 ≤ t ∧ t ≤ 4) ∧ (1 ≤ e ∧ e ≤ 4) ∧ (1 ≤ y ∧ y ≤ 1000) ∧ r.length ≤ 16 := by
  unfold letterOk at h
  simp only [Bool.and_eq_true, inB_iff] at h
  obtain ⟨⟨he, hy⟩, h⟩ := h
  split at h
  · simp only [Bool.and_eq_true, inB_iff, beq_iff_eq, List.isEmpty_iff] at h
    refine ⟨by omega, by omega, by omega, he, hy, ?_⟩
    rw [h.2]; simp
  · split at h
    · simp only [Bool.and_eq_true, inB_iff, beq_iff_eq] at h
      exact ⟨by omega, by omega, by omega, he, hy, by omega⟩
    · split at h
      · simp only [Bool.and_eq_true, inB_iff, beq_iff_eq, List.isEmpty_iff] at h
        refine ⟨by omega, by omega, by omega, he, hy, ?_⟩
        rw [h.2]; simp
      · cases h
def letterBody (k f t e y : Nat) (r : Bs) : Bs := [UInt8.ofNat k, UInt8.ofNat f, UInt8.ofNat t, UInt8.ofNat e] ++ varText y ++ r
def letterText (k f t e y : Nat) (r : Bs) : Bs := sealed (letterBody k f t e y r)

theorem oneOf_bad (t : Bs) (p : Nat) : oneOf t p true = (0, p, true) := by unfold oneOf bytesOf; simp
theorem oneOf_le {t : Bs} {p : Nat} {b : Bool} (hp : p ≤ t.length) : (oneOf t p b).2.1 ≤ t.length ∧ (oneOf t p b).1 ≤ 255 := by
  unfold oneOf bytesOf
  split
  · rename_i h
    split at h
    · injection h with h1 h2; injection h2 with h2 h3; subst h2; simp [hp]
    · rename_i hc
      injection h with h1 h2; injection h2 with h2 h3; subst h2
      simp; omega
  · rename_i x l q b' h
    split at h
    · injection h with h1 h2; cases h1
    · rename_i hc
      injection h with h1 h2; injection h2 with h2 h3; subst h2
      have := x.toNat_lt
      simp; omega
theorem oneOf_enc {t : Bs} {p q n : Nat} {b : Bool} (h : oneOf t p b = (n, q, false)) : b = false ∧ q = p + 1 ∧ ∃ x : UInt8, x.toNat = n ∧ t.drop p = x :: t.drop q := by
  unfold oneOf bytesOf at h
  split at h
  · rename_i h2
    split at h2
    · injection h2 with h3 h4; injection h4 with h4 h5; subst h5; simp at h
    · rename_i hc
      injection h2 with h3 h4
      exfalso
      have hl := congrArg List.length h3
      simp at hl hc
      omega
  · rename_i x l q' b' h2
    split at h2
    · injection h2 with h3 h4; cases h3
    · rename_i hc
      injection h2 with h3 h4; injection h4 with h4 h5
      simp at h
      obtain ⟨rfl, rfl, rfl⟩ := h
      subst h4
      refine ⟨h5, rfl, x, rfl, ?_⟩
      rcases hd : t.drop p with _ | ⟨y, r⟩
      · rw [hd] at h3; simp at h3
      · rw [hd] at h3
        simp at h3
        rw [h3.1, ← List.drop_drop, hd]; rfl
theorem unsealed_enc {t s : Bs} (h : unsealed t = some s) : sealed s = t := by
  unfold unsealed at h
  split at h
  · rename_i hc
    injection h with h
    rw [sealed, ← h, ← hc.2.2, List.take_append_drop]
  · cases h
theorem unsealed_len {t s : Bs} (h : unsealed t = some s) : s.length ≤ 20000 := by
  unfold unsealed at h
  split at h
  · injection h with h
    rw [← h]; simp; omega
  · cases h
abbrev Lt := Nat × Nat × Nat × Nat × Nat × Bs
/-- What the program's ReadLetter reads of a text, unsealed or not. -/
def readLetterI (s : Bs) (ok : Bool) : Option Lt :=
  let (k, p1, b1) := oneOf s 0 false
  let (f, p2, b2) := oneOf s p1 b1
  let (t, p3, b3) := oneOf s p2 b2
  let (e, p4, b4) := oneOf s p3 b3
  let (y, p5, b5) := numOf s p4 b4
  if ok = true ∧ b5 = false ∧ letterOk k f t e y (s.drop p5) = true then some (k, f, t, e, y, s.drop p5) else none
/-- What the reference's ReadLetter reads. -/
def readLetterS (t s : Bs) (ok : Bool) : Option Lt :=
  let (k, p1, b1) := oneOf s 0 (!ok)
  let (f, p2, b2) := oneOf s p1 b1
  let (x, p3, b3) := oneOf s p2 b2
  let (e, p4, b4) := oneOf s p3 b3
  let (y, p5, b5) := numS s p4 b4
  if b5 = false ∧ letterOk k f x e y (s.drop p5) = true ∧ letterText k f x e y (s.drop p5) = t then some (k, f, x, e, y, s.drop p5) else none
theorem ofNat_eq {x : UInt8} {n : Nat} (h : x.toNat = n) : UInt8.ofNat n = x := by subst h; exact ofNat_toNat x
theorem readLetter_agree (t : Bs) (s : Bs) (ok : Bool) (h : ok = true → unsealed t = some s) : readLetterI s ok = readLetterS t s ok := by
  cases ok
  · simp only [readLetterI, readLetterS, Bool.not_false, oneOf_bad]
    simp [numS]
  · have hs := h rfl
    have hse := unsealed_enc hs
    rcases hK : oneOf s 0 false with ⟨k, p1, b1⟩
    rcases hF : oneOf s p1 b1 with ⟨f, p2, b2⟩
    rcases hT : oneOf s p2 b2 with ⟨x, p3, b3⟩
    rcases hE : oneOf s p3 b3 with ⟨e, p4, b4⟩
    rcases hY : numOf s p4 b4 with ⟨y, p5, b5⟩
    simp only [readLetterI, readLetterS, Bool.not_true, hK, hF, hT, hE, hY]
    cases b4
    · simp only [numS_good, hY]
      cases b5
      · obtain ⟨h3, q4, x4, e4, d4⟩ := oneOf_enc hE
        subst h3
        obtain ⟨h2, q3, x3, e3, d3⟩ := oneOf_enc hT
        subst h2
        obtain ⟨h1, q2, x2, e2, d2⟩ := oneOf_enc hF
        subst h1
        obtain ⟨_, q1, x1, e1, d1⟩ := oneOf_enc hK
        obtain ⟨_, _, d5, q5⟩ := numOf_enc hY
        have hb : letterBody k f x e y (s.drop p5) = s := by
          rw [letterBody, ofNat_eq e1, ofNat_eq e2, ofNat_eq e3, ofNat_eq e4, List.append_assoc, ← d5]
          show x1 :: x2 :: x3 :: x4 :: s.drop p4 = s
          rw [← d4, ← d3, ← d2, ← d1]; rfl
        have ht : letterText k f x e y (s.drop p5) = t := by rw [letterText, hb, hse]
        simp [ht]
      · simp
    · have hy := numOf_bad s p4
      rw [hY] at hy
      simp only at hy
      subst hy
      simp [numS]
end Go.Proofs.Ytkdajahiaedoiaa.Pl
