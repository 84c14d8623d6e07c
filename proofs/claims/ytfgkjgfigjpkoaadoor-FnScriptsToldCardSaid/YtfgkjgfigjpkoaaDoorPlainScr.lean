/- Plain: lines, their parts, and numbers, as a script has them. -/
import Derived.Lib.Atoi
import Derived.Lib.ItoaNum
import Derived.Test.YtfgkjgfigjpkoaaDoorPlainM
namespace Go.Proofs.YtfgkjgfigjpkoaaDoor.Pl
set_option linter.unusedVariables false
set_option linter.unusedSimpArgs false
set_option linter.unusedSectionVars false
def prS (x : List Bs × Bs) (b : UInt8) : List Bs × Bs := if b.toNat = 32 then (if x.2 = [] then x.1 else x.1 ++ [x.2], []) else (x.1, x.2 ++ [b])
def prF (l : Bs) : List Bs × Bs := l.foldl prS ([], [])
def prL (x : List Bs × Bs) : List Bs := if x.2 = [] then x.1 else x.1 ++ [x.2]
def okP (b : UInt8) : Bool := decide (32 ≤ b.toNat) && decide (b.toNat ≤ 126)
def z0o (l : Bs) : List Bs := prL (prF l)
def z0v (l : Bs) : Bool := decide (l.length ≤ 600) && (l.all okP && decide ((z0o l).length ≤ 10))
theorem z2S {l : Bs} {k : Nat} (h : k < l.length) : prF (l.take (k + 1)) = prS (prF (l.take k)) (l.getD k 0) := by
 have e : l.take (k + 1) = l.take k ++ [l.getD k 0] := by rw [List.take_add_one, List.getElem?_eq_getElem h, List.getD, List.getElem?_eq_getElem h]; rfl
 rw [e, prF, List.foldl_append]
 rfl
theorem z4B (l : Bs) : ∀ k, k ≤ l.length → (prF (l.take k)).2.length ≤ k ∧ (prF (l.take k)).2 = (l.take k).drop (k - (prF (l.take k)).2.length)
 | 0, _ => by simp [prF]
 | k + 1, h => by
   obtain ⟨h1, h2⟩ := z4B l k (by omega)
   have e : l.take (k + 1) = l.take k ++ [l.getD k 0] := by rw [List.take_add_one, List.getElem?_eq_getElem (show k < l.length by omega), List.getD, List.getElem?_eq_getElem (show k < l.length by omega)]; rfl
   rw [z2S (by omega)]
   generalize prF (l.take k) = x at h1 h2
   unfold prS
   split
   ·refine ⟨by simp, ?_⟩
    have : (l.take (k + 1)).length = k + 1 := by rw [List.length_take]; omega
    simp [List.drop_of_length_le (show (l.take (k + 1)).length ≤ k + 1 by omega)]
   ·have hl : (l.take k).length = k := by rw [List.length_take]; omega
    refine ⟨by rw [List.length_append]; simp; omega, ?_⟩
    show x.2 ++ [l.getD k 0] = (l.take (k + 1)).drop (k + 1 - (x.2 ++ [l.getD k 0]).length)
    rw [e, List.length_append, List.length_singleton, show k + 1 - (x.2.length + 1) = k - x.2.length by omega, List.drop_append_of_le_length (by omega), ← h2]
theorem z61 (l : Bs) : ∀ k, k ≤ l.length → (prF (l.take k)).1.length ≤ k
 | 0, _ => by simp [prF]
 | k + 1, h => by
   have h1 := z61 l k (by omega)
   rw [z2S (by omega)]
   generalize prF (l.take k) = x at h1
   unfold prS
   split
   ·split
    ·show x.1.length ≤ k + 1; omega
    ·show (x.1 ++ [x.2]).length ≤ k + 1; rw [List.length_append]; simp; omega
   ·show x.1.length ≤ k + 1; omega
theorem z2o (p : UInt8 → Bool) : ∀ l : Bs, l.all p = true ∨ ∃ j, j < l.length ∧ p (l.getD j 0) = false ∧ ∀ i, i < j → p (l.getD i 0) = true
 | [] => .inl rfl
 | b :: l => by
   cases hb : p b with
   | false => exact .inr ⟨0, by simp, by simpa using hb, fun i h => by omega⟩
   | true =>
     rcases z2o p l with h | ⟨j, h1, h2, h3⟩
     ·exact .inl (by rw [List.all_cons, hb, h]; rfl)
     ·refine .inr ⟨j + 1, by simp; omega, by simpa using h2, fun i hi => ?_⟩
      cases i with
      | zero => simpa using hb
      | succ i => simpa using h3 i (by omega)
theorem z3V {p : UInt8 → Bool} {l : Bs} (h : l.all p = true) {i : Nat} (hi : i < l.length) : p (l.getD i 0) = true := by
 rw [List.getD, List.getElem?_eq_getElem hi]
 exact (List.all_eq_true.1 h) _ (List.getElem_mem hi)
theorem z8z {p : UInt8 → Bool} {l : Bs} {j : Nat} (h1 : j < l.length) (h2 : p (l.getD j 0) = false) : l.all p = false := by
 cases h : l.all p with
 | false => rfl
 | true => rw [z3V h h1] at h2; cases h2
theorem z6J {b : UInt8} (h : okP b = true) : 32 ≤ b.toNat ∧ b.toNat ≤ 126 := by
 simpa [okP] using h
theorem z8A {b : UInt8} (h : okP b = false) : b.toNat < 32 ∨ 126 < b.toNat := by
 simp [okP] at h
 omega
theorem z4C (l : Bs) : prF (l ++ [32]) = (z0o l, []) := by
 rw [prF, List.foldl_append]
 rfl
theorem z5k (l : Bs) : ∀ k, k ≤ l.length → ∀ x ∈ (prF (l.take k)).1, x ≠ [] ∧ x.length ≤ l.length
 | 0, _ => by simp [prF]
 | k + 1, h => by
   have h1 := z5k l k (by omega)
   have h2 := (z4B l k (by omega)).1
   rw [z2S (by omega)]
   generalize prF (l.take k) = x at h1 h2
   unfold prS
   split
   ·split
    ·exact h1
    ·rename_i hne
     intro y hy
     rcases List.mem_append.1 hy with hy | hy
     ·exact h1 y hy
     ·obtain rfl : y = x.2 := by simpa using hy
      exact ⟨hne, by omega⟩
   ·exact h1
theorem z3n {l x : Bs} (h : x ∈ z0o l) : x ≠ [] ∧ x.length ≤ l.length := by
 have h1 := z5k l l.length (Nat.le_refl _)
 have h2 := (z4B l l.length (Nat.le_refl _)).1
 rw [List.take_length] at h1 h2
 unfold z0o prL at h
 split at h
 ·exact h1 x h
 ·rename_i hne
  rcases List.mem_append.1 h with hy | hy
  ·exact h1 x hy
  ·obtain rfl : x = (prF l).2 := by simpa using hy
   exact ⟨hne, h2⟩
theorem z3o (l : Bs) : (z0o l).length ≤ l.length + 1 := by
 have h := z61 l l.length (Nat.le_refl _)
 rw [List.take_length] at h
 unfold z0o prL
 split
 ·omega
 ·rw [List.length_append]; simp; omega
end Go.Proofs.YtfgkjgfigjpkoaaDoor.Pl
