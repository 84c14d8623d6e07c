/- Plain: lines, their parts, and numbers, as a script has them. -/
import Derived.Lib.Atoi
import Derived.Lib.ItoaNum
import Derived.Test.YtkgfidphcpklhaaDoorPlainA
set_option linter.unusedVariables false
set_option linter.unusedSimpArgs false
namespace Go.Proofs.YtkgfidphcpklhaaDoor.Pl
/-- One byte more of a line: the parts that are whole, and the one that has begun. -/
def prS (x : List Bs × Bs) (b : UInt8) : List Bs × Bs := if b.toNat = 32 then (if x.2 = [] then x.1 else x.1 ++ [x.2], []) else (x.1, x.2 ++ [b])
def prF (l : Bs) : List Bs × Bs := l.foldl prS ([], [])
def prL (x : List Bs × Bs) : List Bs := if x.2 = [] then x.1 else x.1 ++ [x.2]
def okP (b : UInt8) : Bool := decide (32 ≤ b.toNat) && decide (b.toNat ≤ 126)
def partsOf (l : Bs) : List Bs := prL (prF l)
def partsB (l : Bs) : Bool := decide (l.length ≤ 600) && (l.all okP && decide ((partsOf l).length ≤ 10))
theorem prF_next {l : Bs} {k : Nat} (h : k < l.length) : prF (l.take (k + 1)) = prS (prF (l.take k)) (l.getD k 0) := by
  have e : l.take (k + 1) = l.take k ++ [l.getD k 0] := by rw [List.take_add_one, List.getElem?_eq_getElem h, List.getD, List.getElem?_eq_getElem h]; rfl
  rw [e, prF, List.foldl_append]
  rfl
/-- The part that has begun is what the line ends in. -/
theorem prF_cur (l : Bs) : ∀ k, k ≤ l.length → (prF (l.take k)).2.length ≤ k ∧ (prF (l.take k)).2 = (l.take k).drop (k - (prF (l.take k)).2.length)
  | 0, _ => by simp [prF]
  | k + 1, h => by
    obtain ⟨h1, h2⟩ := prF_cur l k (by omega)
    have e : l.take (k + 1) = l.take k ++ [l.getD k 0] := by rw [List.take_add_one, List.getElem?_eq_getElem (show k < l.length by omega), List.getD, List.getElem?_eq_getElem (show k < l.length by omega)]; rfl
    rw [prF_next (by omega)]
    generalize prF (l.take k) = x at h1 h2
    unfold prS
    split
    · refine ⟨by simp, ?_⟩
      have : (l.take (k + 1)).length = k + 1 := by rw [List.length_take]; omega
      simp [List.drop_of_length_le (show (l.take (k + 1)).length ≤ k + 1 by omega)]
    · have hl : (l.take k).length = k := by rw [List.length_take]; omega
      refine ⟨by rw [List.length_append]; simp; omega, ?_⟩
      show x.2 ++ [l.getD k 0] = (l.take (k + 1)).drop (k + 1 - (x.2 ++ [l.getD k 0]).length)
      rw [e, List.length_append, List.length_singleton, show k + 1 - (x.2.length + 1) = k - x.2.length by omega, List.drop_append_of_le_length (by omega), ← h2]
theorem prF_len (l : Bs) : ∀ k, k ≤ l.length → (prF (l.take k)).1.length ≤ k
  | 0, _ => by simp [prF]
  | k + 1, h => by
    have h1 := prF_len l k (by omega)
    rw [prF_next (by omega)]
    generalize prF (l.take k) = x at h1
    unfold prS
    split
    · split
      · show x.1.length ≤ k + 1; omega
      · show (x.1 ++ [x.2]).length ≤ k + 1; rw [List.length_append]; simp; omega
    · show x.1.length ≤ k + 1; omega
theorem bad_first (p : UInt8 → Bool) : ∀ l : Bs, l.all p = true ∨ ∃ j, j < l.length ∧ p (l.getD j 0) = false ∧ ∀ i, i < j → p (l.getD i 0) = true
  | [] => .inl rfl
  | b :: l => by
    cases hb : p b with
    | false => exact .inr ⟨0, by simp, by simpa using hb, fun i h => by omega⟩
    | true =>
      rcases bad_first p l with h | ⟨j, h1, h2, h3⟩
      · exact .inl (by rw [List.all_cons, hb, h]; rfl)
      · refine .inr ⟨j + 1, by simp; omega, by simpa using h2, fun i hi => ?_⟩
        cases i with
        | zero => simpa using hb
        | succ i => simpa using h3 i (by omega)
theorem all_at {p : UInt8 → Bool} {l : Bs} (h : l.all p = true) {i : Nat} (hi : i < l.length) : p (l.getD i 0) = true := by
  rw [List.getD, List.getElem?_eq_getElem hi]
  exact (List.all_eq_true.1 h) _ (List.getElem_mem hi)
theorem all_no {p : UInt8 → Bool} {l : Bs} {j : Nat} (h1 : j < l.length) (h2 : p (l.getD j 0) = false) : l.all p = false := by
  cases h : l.all p with
  | false => rfl
  | true => rw [all_at h h1] at h2; cases h2
theorem okP_in {b : UInt8} (h : okP b = true) : 32 ≤ b.toNat ∧ b.toNat ≤ 126 := by
  simpa [okP] using h
theorem okP_out {b : UInt8} (h : okP b = false) : b.toNat < 32 ∨ 126 < b.toNat := by
  simp [okP] at h
  omega
/-- A line with one blank behind it: all parts are whole at its end. -/
theorem partsOf_blank (l : Bs) : prF (l ++ [32]) = (partsOf l, []) := by
  rw [prF, List.foldl_append]
  rfl
/-- What is a part of a line: not empty, no longer than the line, of the line's bytes. -/
theorem prF_parts (l : Bs) : ∀ k, k ≤ l.length → ∀ x ∈ (prF (l.take k)).1, x ≠ [] ∧ x.length ≤ l.length
  | 0, _ => by simp [prF]
  | k + 1, h => by
    have h1 := prF_parts l k (by omega)
    have h2 := (prF_cur l k (by omega)).1
    rw [prF_next (by omega)]
    generalize prF (l.take k) = x at h1 h2
    unfold prS
    split
    · split
      · exact h1
      · rename_i hne
        intro y hy
        rcases List.mem_append.1 hy with hy | hy
        · exact h1 y hy
        · obtain rfl : y = x.2 := by simpa using hy
          exact ⟨hne, by omega⟩
    · exact h1
theorem partsOf_mem {l x : Bs} (h : x ∈ partsOf l) : x ≠ [] ∧ x.length ≤ l.length := by
  have h1 := prF_parts l l.length (Nat.le_refl _)
  have h2 := (prF_cur l l.length (Nat.le_refl _)).1
  rw [List.take_length] at h1 h2
  unfold partsOf prL at h
  split at h
  · exact h1 x h
  · rename_i hne
    rcases List.mem_append.1 h with hy | hy
    · exact h1 x hy
    · obtain rfl : x = (prF l).2 := by simpa using hy
      exact ⟨hne, h2⟩
theorem partsOf_len (l : Bs) : (partsOf l).length ≤ l.length + 1 := by
  have h := prF_len l l.length (Nat.le_refl _)
  rw [List.take_length] at h
  unfold partsOf prL
  split
  · omega
  · rw [List.length_append]; simp; omega
end Go.Proofs.YtkgfidphcpklhaaDoor.Pl
