/- Functions by content: lists of entries. Functions by content: numbers, strings and entries as bytes. -/
import Derived.Test.YtkgfidphcpklhaaDoorFA
import Derived.Test.YtkgfidphcpklhaaDoorPlainA
namespace Go.Proofs.YtkgfidphcpklhaaDoor
open Go.RowKit Pl
set_option linter.unusedVariables false
set_option linter.unusedSimpArgs false
attribute [local irreducible] CondB CallP LoopW AnsP LeP

def lvE (l : List Lf) : List (List T) := l.map fun x => [.str x.1, .str x.2]
theorem lfAt_get {l : List Lf} {k : Nat} (h : k < l.length) : lfAt l k = l[k] := by simp [lfAt, List.getD, List.getElem?_eq_getElem h]
theorem lv_get {l : List Lf} {k : Nat} (h : k < l.length) : (lvE l)[k]? = some [.str (lfAt l k).1, .str (lfAt l k).2] := by
  rw [lfAt_get h]; simp [lvE, List.getElem?_eq_getElem h]
theorem lv_len (l : List Lf) : (lvE l).length = l.length := by simp [lvE]
theorem lvE_append (a b : List Lf) : lvE (a ++ b) = lvE a ++ lvE b := by simp [lvE]
def Fit (l : List Lf) : Prop := ∀ i, ((lfAt l i).1.length : Int) ≤ 1000000000 ∧ ((lfAt l i).2.length : Int) ≤ 1000000000
theorem pos_dec (k : Nat) : (k == 0) = !decide ((0 : Int) < (k : Int)) := by cases k <;> simp <;> omega
end Go.Proofs.YtkgfidphcpklhaaDoor
namespace Go.Proofs.YtkgfidphcpklhaaDoor
open Go.RowKit Pl
set_option linter.unusedVariables false
set_option linter.unusedSimpArgs false
attribute [local irreducible] CondB CallP LoopW AnsP LeP

theorem w_quo {a n : Nat} {K : Int → Prop} (h : a ≤ 9223372036854775807) (hk : K ((a / n : Nat) : Int)) : ∃ r, r = IntKind.i64.wrap ((a : Int).tdiv (n : Int)) ∧ K r := by
  have e : (a : Int).tdiv (n : Int) = ((a / n : Nat) : Int) := Int.ofNat_tdiv a n
  have : a / n ≤ a := Nat.div_le_self _ _
  have h2 : ((a / n : Nat) : Int) ≤ 9223372036854775807 := by generalize a / n = x at *; omega
  have h3 : (0 : Int) ≤ ((a / n : Nat) : Int) := Int.natCast_nonneg _
  generalize a / n = x at *
  exact ⟨_, by rw [e, wrap_i64 (by omega) h2], hk⟩
theorem w_quon {a n : Nat} {K : Int → Prop} (h : a ≤ 9223372036854775807) (hk : K ((a / OfNat.ofNat n : Nat) : Int)) : ∃ r, r = IntKind.i64.wrap ((a : Int).tdiv (OfNat.ofNat n : Int)) ∧ K r := w_quo (n := OfNat.ofNat n) h hk
theorem r_remn {a n : Nat} {K : Int → Prop} (hk : K ((a % OfNat.ofNat n : Nat) : Int)) : ∃ r, r = (a : Int).tmod (OfNat.ofNat n : Int) ∧ K r :=
  ⟨_, (Int.ofNat_tmod a (OfNat.ofNat n)).symm, hk⟩
theorem wrap_u8 {n : Nat} : IntKind.u8.wrap (n : Int) = ((UInt8.ofNat n).toNat : Int) := by
  show (if (false && decide ((n : Int) % 2 ^ 8 ≥ 2 ^ (8 - 1))) = true then (n : Int) % 2 ^ 8 - 2 ^ 8 else (n : Int) % 2 ^ 8) = _
  simp
theorem w_u8 {n : Nat} {K : Int → Prop} (hk : K ((UInt8.ofNat n).toNat : Int)) : ∃ r, r = IntKind.u8.wrap (n : Int) ∧ K r := ⟨_, wrap_u8.symm, hk⟩
theorem bytesE_snoc (l : Bs) (b : UInt8) : bytesE l ++ [[.int .u8 (b.toNat : Int)]] = bytesE (l ++ [b]) := by simp [bytesE, byteE]
theorem bytesE_len (l : Bs) : (bytesE l).length = l.length := by simp [bytesE]
set_option maxRecDepth 100000 in
set_option maxHeartbeats 400000 in
theorem c_big (l : Bs) : CT Tryd.prog 5 [] [.sl 1 (bytesE l)] (.bool (decide ((1048576 : Int) < (l.length : Int)))) [] := by
  have hlen := bytesE_len l
  refine ct_intro tt_ok 1 rfl Tryd.func5 rfl rfl rfl ?_
  repeat ((try conv => whnf); first | (refine stpQ ?_))
  rw [← hlen]
  (refine ans_auto (by rfl) ?_ ?_ (by rfl)) <;> repeat' (first | (exact eqA) | (refine And.intro ?_ ?_) | ((fail_if_success (with_reducible (show _ = _))); (show _ = _)))
theorem w_addl {a n : Nat} {K : Int → Prop} (h : OfNat.ofNat n + a ≤ 9223372036854775807) (hk : K ((OfNat.ofNat n + a : Nat) : Int)) : ∃ r, r = IntKind.i64.wrap ((OfNat.ofNat n : Int) + (a : Int)) ∧ K r :=
  w_add (a := OfNat.ofNat n) h hk
theorem varTextL {n : Nat} (hn : (n : Int) ≤ 2000000000) : ((varText n).length : Int) ≤ 5 := by have := varText_len hn; omega
theorem shortTextL {s : Bs} (hs : (s.length : Int) ≤ 1000000000) : ((shortText s).length : Int) ≤ (s.length : Int) + 5 := by have := shortText_len (l := s) (by omega); omega
def Sml (l : List Lf) : Prop := (l.length : Int) ≤ 1000 ∧ ∀ i, ((lfAt l i).1.length : Int) ≤ 1000000 ∧ ((lfAt l i).2.length : Int) ≤ 1000000
theorem flat_next {l : List Lf} {k : Nat} (h : k < l.length) : (l.take (k + 1)).flatMap lfText = (l.take k).flatMap lfText ++ (shortText (lfAt l k).1 ++ shortText (lfAt l k).2) := by
  rw [take_next l k h, List.flatMap_append]; simp [lfText]
theorem flat_len {l : List Lf} (h : Sml l) : ∀ k, (((l.take k).flatMap lfText).length : Int) ≤ 3000000 * k
  | 0 => by simp
  | k + 1 => by
    have ih := flat_len h k
    by_cases hk : k < l.length
    · rw [flat_next hk]
      have h1 := shortTextL (s := (lfAt l k).1) (by have := (h.2 k).1; omega)
      have h2 := shortTextL (s := (lfAt l k).2) (by have := (h.2 k).2; omega)
      have := h.2 k
      simp only [List.length_append]
      omega
    · rw [List.take_of_length_le (by omega)]
      rw [List.take_of_length_le (by omega)] at ih
      omega
end Go.Proofs.YtkgfidphcpklhaaDoor
