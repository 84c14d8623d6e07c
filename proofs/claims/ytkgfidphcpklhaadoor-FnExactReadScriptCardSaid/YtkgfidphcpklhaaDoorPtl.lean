/- The parts of a line: what holds byte by byte. -/
import Derived.Test.YtkgfidphcpklhaaDoorPlainScr
import Derived.Test.YtkgfidphcpklhaaDoorFHI
import Derived.Test.YtkgfidphcpklhaaDoorVQ
namespace Go.Proofs.YtkgfidphcpklhaaDoor
open Go.RowKit Pl
set_option linter.unusedVariables false
set_option linter.unusedSimpArgs false

def gK (l : Bs) (k : Nat) : List Bs × Bs := prF ((l ++ [32]).take k)
theorem gK_at {l : Bs} {k : Nat} (h : k ≤ l.length) : (gK l k).1.length ≤ k ∧ (gK l k).2.length ≤ k ∧ (gK l k).2 = (l.take k).drop (k - (gK l k).2.length) := by
  have e : gK l k = prF (l.take k) := by rw [gK, List.take_append_of_le_length h]
  rw [e]
  obtain ⟨h1, h2⟩ := prF_cur l k h
  exact ⟨prF_len l k h, h1, h2⟩
theorem gK_next {l : Bs} {k : Nat} (h : k < l.length) : gK l (k + 1) = prS (gK l k) (l.getD k 0) := by
  have e : gK l (k + 1) = prF (l.take (k + 1)) := by rw [gK, List.take_append_of_le_length (by omega)]
  rw [e, prF_next h, gK, List.take_append_of_le_length (by omega)]
theorem gK_end (l : Bs) : gK l (l.length + 1) = (partsOf l, []) := by
  rw [gK, List.take_of_length_le (by simp), partsOf_blank]
theorem gK_last (l : Bs) : gK l (l.length + 1) = prS (gK l l.length) 32 := by
  have e : gK l l.length = prF l := by rw [gK, List.take_append_of_le_length (Nat.le_refl _), List.take_length]
  rw [gK_end, e]
  rfl
theorem gK_zero (l : Bs) : gK l 0 = ([], []) := rfl
def frI (c : Bs) (k : Nat) : Int := if c = [] then -1 else ((k - c.length : Nat) : Int)
theorem frI_nil (k : Nat) : frI [] k = -1 := by rw [frI, if_pos rfl]
theorem frI_cons {c : Bs} (k : Nat) (h : c ≠ []) : frI c k = ((k - c.length : Nat) : Int) := by rw [frI, if_neg h]
theorem inB_yes {n : Nat} (h1 : 32 ≤ n) (h2 : n ≤ 126) : inB (n : Int) 32 126 = true := by simp [inB]; omega
theorem inB_no {n : Nat} (h : n < 32 ∨ 126 < n) : inB (n : Int) 32 126 = false := by simp [inB]; omega
def prt (l : Bs) : List Bs := bif partsB l then partsOf l else []
theorem strE_next (o : List Bs) (c : Bs) : strE (o ++ [c]) = strE o ++ [[.str c]] := by simp [strE]
theorem gK_blank {l : Bs} {k : Nat} (hk : k ≤ l.length) (h : k = l.length ∨ (l.getD k 0).toNat = 32) : gK l (k + 1) = (if (gK l k).2 = [] then (gK l k).1 else (gK l k).1 ++ [(gK l k).2], []) := by
  by_cases hkl : k = l.length
  · subst hkl
    rw [gK_last, prS, if_pos (show UInt8.toNat 32 = 32 from rfl)]
  · rw [gK_next (by omega), prS, if_pos (h.resolve_left hkl)]
theorem gK_byte {l : Bs} {k : Nat} (hk : k < l.length) (h : ¬ (l.getD k 0).toNat = 32) : gK l (k + 1) = ((gK l k).1, (gK l k).2 ++ [l.getD k 0]) := by
  rw [gK_next hk, prS, if_neg h]
theorem frI_next {c : Bs} {b : UInt8} {k : Nat} (hc : c ≠ []) : frI (c ++ [b]) (k + 1) = ((k - c.length : Nat) : Int) := by
  rw [frI_cons _ (by simp), List.length_append, List.length_singleton, show k + 1 - (c.length + 1) = k - c.length by omega]
theorem frI_one {b : UInt8} {k : Nat} : frI ([] ++ [b]) (k + 1) = (k : Int) := by
  rw [frI_cons _ (by simp)]
  rfl
theorem app_bd {o : List Bs} {k : Nat} (h1 : o.length ≤ k) (h2 : k ≤ 1000) (a : List T) : ((strE o ++ ((List.replicate 1 [T.str []]).set 0 a)).length : Int) ≤ 1000000000 := by
  have := strE_len o
  simp only [List.length_append, List.length_set, List.length_replicate]
  omega
theorem strE_cut {o : List Bs} {c d : Bs} (h : c = d) : strE (o ++ [c]) = strE o ++ [[.str d]] := by rw [strE_next, h]
theorem st0 (l : Bs) : frI (gK l 0).2 0 = -1 := by rw [gK_zero, frI_nil]
theorem st1 (l : Bs) : strE (gK l 0).1 = [] := by rw [gK_zero]; rfl
theorem st2 (l : Bs) : ((0 - (gK l 0).2.length : Nat) : Int) = 0 := by rw [gK_zero]; rfl
end Go.Proofs.YtkgfidphcpklhaaDoor
