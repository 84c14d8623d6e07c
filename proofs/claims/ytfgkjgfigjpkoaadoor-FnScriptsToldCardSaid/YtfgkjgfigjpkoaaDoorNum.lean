/- Numbers that are read: what both sides take for a number. -/
import Derived.Lib.Atoi
import Derived.Test.YtfgkjgfigjpkoaaDoorDec
import Derived.Test.YtfgkjgfigjpkoaaDoorPlainScr
namespace Go.Proofs.YtfgkjgfigjpkoaaDoor
set_option linter.unusedVariables false
set_option linter.unusedSimpArgs false
set_option linter.unusedSectionVars false
open Go.RowKit Pl
def decR (t : Bs) : Option Nat := if t.length ≤ 10 then (match Lib.decNat t with
 | some m => if m ≤ 1000000000 ∧ decM m = t then some m else none
 | none => none) else none
def decV (t : Bs) : Nat := (decR t).getD 0
def isB (t : Bs) : Bool := (decR t).isSome
theorem dig_of (n : Nat) : ∀ b ∈ Lib.decDigits n, 48 ≤ b.toNat ∧ b.toNat ≤ 57 := by
 induction n using Nat.strongRecOn with
 | ind n ih =>
   intro b hb
   rw [Lib.decDigits] at hb
   split at hb
   ·rw [List.mem_singleton] at hb
    subst hb
    rw [UInt8.toNat_ofNat']
    omega
   ·rcases List.mem_append.1 hb with h | h
    ·exact ih (n / 10) (by omega) b h
    ·rw [List.mem_singleton] at h
     subst h
     rw [UInt8.toNat_ofNat']
     omega
theorem z5l {m : Nat} {b : UInt8} {r : Bs} (h : decM m = b :: r) : (b == 45) = false ∧ (b == 43) = false := by
 have := dig_of m b (by rw [z2R, h]; exact List.mem_cons_self ..)
 refine ⟨?_, ?_⟩
 ·rw [beq_eq_false_iff_ne]
  intro e
  subst e
  revert this
  decide
 ·rw [beq_eq_false_iff_ne]
  intro e
  subst e
  revert this
  decide
theorem z8B {m : Nat} {t : Bs} (h : decM m = t) (hd : Lib.decNat t = some m) : Lib.atoi t = some (m : Int) := by
 cases t with
 | nil => simp [Lib.decNat] at hd
 | cons b r =>
   obtain ⟨h1, h2⟩ := z5l h
   simp only [Lib.atoi, h1, h2, Bool.false_eq_true, if_false, hd, Option.map_some]
theorem z5m {t : Bs} {m : Nat} (h : decR t = some m) : t.length ≤ 10 ∧ Lib.decNat t = some m ∧ m ≤ 1000000000 ∧ decM m = t := by
 unfold decR at h
 split at h
 ·rename_i h0
  cases hd : Lib.decNat t with
  | none => rw [hd] at h; simp at h
  | some k =>
    rw [hd] at h
    simp only at h
    split at h
    ·rename_i h1
     obtain rfl : k = m := by simpa using h
     exact ⟨h0, rfl, h1.1, h1.2⟩
    ·simp at h
 ·simp at h
theorem z9O {t : Bs} (h : Lib.atoi t = none) : decR t = none := by
 cases hr : decR t with
 | none => rfl
 | some m =>
   obtain ⟨h1, h2, h3, h4⟩ := z5m hr
   rw [z8B h4 h2] at h
   simp at h
theorem z9P {t : Bs} {n : Int} (hl : t.length ≤ 10) (h : Lib.atoi t = some n) (h0 : 0 ≤ n) (h1 : n ≤ 1000000000) (hi : Lib.itoa n = t) : decR t = some n.toNat := by
 obtain ⟨m, rfl⟩ : ∃ m : Nat, n = m := ⟨n.toNat, by omega⟩
 have e : decM m = t := by rw [← hi, Lib.itoa, if_neg (by omega), z2R]; rfl
 have hd : Lib.decNat t = some m := by
  cases t with
  | nil => simp [Lib.atoi] at h
  | cons b r =>
    obtain ⟨k1, k2⟩ := z5l e
    simp only [Lib.atoi, k1, k2, Bool.false_eq_true, if_false] at h
    cases hd : Lib.decNat (b :: r) with
    | none => rw [hd] at h; simp at h
    | some k =>
      rw [hd] at h
      simp only [Option.map_some, Option.some.injEq] at h
      congr 1
      omega
 rw [decR, if_pos hl, hd]
 simp only
 rw [if_pos ⟨by omega, e⟩, Int.toNat_natCast]
theorem z8C {t : Bs} {n : Int} (h : Lib.atoi t = some n) (hn : ¬ (0 ≤ n ∧ n ≤ 1000000000 ∧ Lib.itoa n = t)) : decR t = none := by
 cases hr : decR t with
 | none => rfl
 | some m =>
   obtain ⟨h1, h2, h3, h4⟩ := z5m hr
   rw [z8B h4 h2] at h
   obtain rfl : (m : Int) = n := by simpa using h
   exact absurd ⟨by omega, by omega, by rw [Lib.itoa, if_neg (by omega), ← h4, z2R]; rfl⟩ hn
def z3B (b : UInt8) : Bool := decide (48 ≤ b.toNat) && decide (b.toNat ≤ 57)
def accS (a : Nat) (b : UInt8) : Nat := a * 10 + (b.toNat - 48)
def accD (l : Bs) : Nat := l.foldl accS 0
theorem z2T {b : UInt8} (h : z3B b = true) : 48 ≤ b.toNat ∧ b.toNat ≤ 57 := by
 simpa [z3B] using h
theorem z5n {b : UInt8} (h : z3B b = false) : b.toNat < 48 ∨ 57 < b.toNat := by
 simp [z3B] at h
 omega
theorem z3p {l : Bs} {k : Nat} (h : k < l.length) : accD (l.take (k + 1)) = accS (accD (l.take k)) (l.getD k 0) := by
 have e : l.take (k + 1) = l.take k ++ [l.getD k 0] := by rw [List.take_add_one, List.getElem?_eq_getElem h, List.getD, List.getElem?_eq_getElem h]; rfl
 rw [e, accD, List.foldl_append]
 rfl
theorem z4D {l : Bs} : ∀ {k : Nat}, k ≤ l.length → (∀ i, i < k → z3B (l.getD i 0) = true) → accD (l.take k) < 10 ^ k
 | 0, _, _ => by simp [accD]
 | k + 1, h, hp => by
   have h1 := z4D (k := k) (by omega) (fun i hi => hp i (by omega))
   have h2 := z2T (hp k (by omega))
   rw [z3p (by omega), accS, Nat.pow_succ]
   omega
theorem z8D : ∀ (l : Bs) (a : Nat), l.all z3B = true → Lib.decFrom a l = some (l.foldl accS a)
 | [], a, _ => rfl
 | b :: l, a, h => by
   rw [List.all_cons, Bool.and_eq_true] at h
   have h1 := z2T h.1
   rw [Lib.decFrom, Lib.digitVal, if_pos h1]
   exact z8D l _ h.2
theorem z6K : ∀ (l : Bs) (a : Nat), l.all z3B = false → Lib.decFrom a l = none
 | [], a, h => by simp at h
 | b :: l, a, h => by
   rw [List.all_cons, Bool.and_eq_false_iff] at h
   rw [Lib.decFrom, Lib.digitVal]
   by_cases hd : 48 ≤ b.toNat ∧ b.toNat ≤ 57
   ·rw [if_pos hd]
    refine z6K l _ (h.resolve_left ?_)
    intro c
    have := z5n c
    omega
   ·rw [if_neg hd]
theorem z9Q {t : Bs} (hl : t.length ≤ 10) (h : t.all z3B = true) : decR t = if accD t ≤ 1000000000 ∧ decM (accD t) = t then some (accD t) else none := by
 cases t with
 | nil =>
   rw [if_neg (by intro c; exact absurd c.2 (by decide))]
   rfl
 | cons b r =>
   rw [decR, if_pos hl, Lib.decNat, z8D _ _ h]
   rfl
theorem z9R {t : Bs} (h : t.all z3B = false) : decR t = none := by
 cases t with
 | nil => simp at h
 | cons b r =>
   unfold decR
   split
   ·rw [Lib.decNat, z6K _ _ h]
    rfl
   ·rfl
theorem z8E {t : Bs} (h : ¬ t.length ≤ 10) : decR t = none := by rw [decR, if_neg h]
theorem key_S {t : Bs} {m : Nat} (h : decR t = some m) : decV t = m ∧ isB t = true := ⟨by rw [decV, h]; rfl, by rw [isB, h]; rfl⟩
theorem z9S {t : Bs} (h : decR t = none) : decV t = 0 ∧ isB t = false := ⟨by rw [decV, h]; rfl, by rw [isB, h]; rfl⟩
end Go.Proofs.YtfgkjgfigjpkoaaDoor
