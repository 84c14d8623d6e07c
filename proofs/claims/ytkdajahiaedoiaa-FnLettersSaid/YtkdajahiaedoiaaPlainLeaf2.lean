/- Entries, no program in sight: both readers agree. -/
import Derived.Test.YtkdajahiaedoiaaPlainLeaf
import Derived.Test.YtkdajahiaedoiaaPlainEnc
namespace Go.Proofs.Ytkdajahiaedoiaa.Pl
set_option linter.unusedVariables false

theorem lvLoop_bad (sh : Sh) (n q : Nat) : lvLoop sh n q true = ([], q, true) := by cases n <;> rfl
theorem lvLoop_step {sh : Sh} {n q q1 q2 : Nat} {a v : Bs} {b1 b2 : Bool} (h1 : sh q false = (a, q1, b1)) (h2 : sh q1 b1 = (v, q2, b2)) :
    lvLoop sh (n + 1) q false = ((a, v) :: (lvLoop sh n q2 b2).1, (lvLoop sh n q2 b2).2) := by
  rw [lvLoop, h1]; simp only [h2]
theorem lvLoop_agree (t : Bs) : ∀ (n q : Nat) (b : Bool), ((lvLoop (shortOf t) n q b).2.2 = true ∧ (lvLoop (shortS t) n q b).2.2 = true) ∨ lvLoop (shortOf t) n q b = lvLoop (shortS t) n q b
  | 0, q, b => .inr rfl
  | n + 1, q, true => .inr rfl
  | n + 1, q, false => by
    rcases h1 : shortOf t q false with ⟨a, q1, b1⟩
    have h1' : shortS t q false = (a, q1, b1) := by rw [shortS_good]; exact h1
    rcases h2 : shortOf t q1 b1 with ⟨v, q2, b2⟩
    rcases h2' : shortS t q1 b1 with ⟨v', q2', b2'⟩
    rw [lvLoop_step h1 h2, lvLoop_step h1' h2']
    cases b1
    · rw [shortS_good, h2] at h2'
      cases h2'
      rcases lvLoop_agree t n q2 b2 with h | h
      · exact .inl h
      · right; rw [h]
    · have e1 := shortOf_bad t q1
      have e2 := shortS_bad t q1
      rw [h2] at e1
      rw [h2'] at e2
      simp only at e1 e2
      subst e1; subst e2
      simp [lvLoop_bad]
theorem lvLoop_enc {t : Bs} : ∀ {n q q2 : Nat} {l : List Lf}, lvLoop (shortOf t) n q false = (l, q2, false) → q ≤ t.length →
    l.length = n ∧ q2 ≤ t.length ∧ t.drop q = l.flatMap lfText ++ t.drop q2
  | 0, q, q2, l, h, hq => by
    simp only [lvLoop] at h
    cases h
    exact ⟨rfl, hq, by simp⟩
  | n + 1, q, q2, l, h, hq => by
    rcases h1 : shortOf t q false with ⟨a, q1, b1⟩
    rcases h2 : shortOf t q1 b1 with ⟨v, q3, b2⟩
    rw [lvLoop_step h1 h2] at h
    cases b2
    · obtain ⟨hb, _, d2, _⟩ := shortOf_enc h2
      subst hb
      obtain ⟨_, _, d1, _⟩ := shortOf_enc h1
      have l1 := (shortOf_le (bad := false) hq).1
      rw [h1] at l1
      have l2 := (shortOf_le (bad := false) (p := q1) l1).1
      rw [h2] at l2
      rcases hr : lvLoop (shortOf t) n q3 false with ⟨l', q4, b4⟩
      rw [hr] at h
      simp only at h
      cases h
      obtain ⟨e1, e2, e3⟩ := lvLoop_enc hr l2
      refine ⟨by simp [e1], e2, ?_⟩
      rw [List.flatMap_cons, lfText, d1, d2, e3]
      simp
    · rw [lvLoop_bad] at h
      simp at h
theorem lvLoop_le {sh : Sh} {t : Bs} (hs : ∀ p b, p ≤ t.length → (sh p b).2.1 ≤ t.length) : ∀ (n q : Nat) (b : Bool), q ≤ t.length → (lvLoop sh n q b).2.1 ≤ t.length
  | 0, q, b, h => h
  | n + 1, q, true, h => h
  | n + 1, q, false, h => lvLoop_le hs n _ _ (hs _ _ (hs _ _ h))
theorem leavesI_le {t : Bs} {p : Nat} {b : Bool} (h : p ≤ t.length) : (leavesI t p b).2.1 ≤ t.length := by
  simp only [leavesI]
  exact lvLoop_le (fun p b hp => (shortOf_le hp).1) _ _ _ (numOf_le h).1
theorem leavesS_le {t : Bs} {p : Nat} {b : Bool} (h : p ≤ t.length) : (leavesS t p b).2.1 ≤ t.length := by
  simp only [leavesS]
  exact lvLoop_le (fun p b hp => (shortS_le hp).1) _ _ _ (numS_le h).1
/-- Whole texts: what the program reads, and what the reference reads. -/
def readLvI (t : Bs) : Option (List Lf) :=
  let R := leavesI t 0 false
  if doneB R.2.2 R.2.1 t.length = true then some R.1 else none
def readLvS (t : Bs) : Option (List Lf) :=
  let R := leavesS t 0 false
  if R.2.2 = false ∧ leavesOk R.1 = true ∧ leavesText R.1 = t then some R.1 else none
theorem readLv_agree (t : Bs) : readLvI t = readLvS t := by
  rcases hN : numOf t 0 false with ⟨n, p1, b1⟩
  have hN' : numS t 0 false = (n, p1, b1) := by rw [numS_good]; exact hN
  simp only [readLvI, readLvS, leavesI, leavesS, hN, hN']
  have hp := (numOf_le (bad := false) (p := 0) (t := t) (by omega)).1
  rw [hN] at hp
  simp only at hp
  cases b1
  · obtain ⟨_, _, d0, _⟩ := numOf_enc hN
    by_cases h24 : 24 < n
    · rw [if_pos h24]
      simp only [lvLoop_bad, doneB]
      rcases hS : lvLoop (shortS t) (min n 30) p1 false with ⟨l, q, b⟩
      rcases lvLoop_agree t (min n 30) p1 false with h | h
      · rw [hS] at h
        have := h.2
        simp only at this
        subst this
        simp
      · rw [hS] at h
        cases b
        · have hl := (lvLoop_enc h hp).1
          have := leavesOk_long (l := l) (by omega)
          simp [this]
        · simp
    · rw [if_neg h24, show min n 30 = n from by omega]
      rcases lvLoop_agree t n p1 false with h | h
      · simp [h.1, h.2, doneB]
      · rcases hS : lvLoop (shortS t) n p1 false with ⟨l, q, b⟩
        rw [h, hS]
        rw [hS] at h
        cases b
        · obtain ⟨e1, e2, e3⟩ := lvLoop_enc h hp
          have hT : leavesText l ++ t.drop q = t := by
            rw [leavesText, e1, List.append_assoc, ← e3, ← d0]; rfl
          cases leavesOk l
          · simp [doneB]
          · by_cases hq : q = t.length
            · have : leavesText l = t := by
                rw [hq, List.drop_length, List.append_nil] at hT; exact hT
              simp [doneB, hq, this]
            · have : leavesText l ≠ t := by
                intro h0
                rw [h0] at hT
                have := congrArg List.length hT
                simp at this
                omega
              simp [doneB, hq, this]
        · simp [doneB]
  · have : (if 24 < n then true else true) = true := by split <;> rfl
    rw [this]
    simp [lvLoop_bad, doneB]
end Go.Proofs.Ytkdajahiaedoiaa.Pl
