/- Plain: an entry is looked up, put, dropped. -/
import Derived.Test.YtkdajahiaedoiaaPlainLeaf2
namespace Go.Proofs.Ytkdajahiaedoiaa.Pl
set_option linter.unusedVariables false
def leafGet (l : List Lf) (n : Bs) : Option Bs := (l.find? fun x => x.1 == n).map (·.2)
def without (l : List Lf) (n : Bs) : List Lf := l.filter fun x => x.1 != n
theorem lf_at {l : List Lf} {k : Nat} (h : k < l.length) : lfAt l k = l[k] := by simp [lfAt, List.getD, List.getElem?_eq_getElem h]
theorem take_next (l : List Lf) (k : Nat) (h : k < l.length) : l.take (k + 1) = l.take k ++ [lfAt l k] := by
  rw [List.take_add_one, List.getElem?_eq_getElem h, lf_at h]; rfl
theorem get_next {l : List Lf} {k : Nat} {n : Bs} (h : k < l.length) (hx : leafGet (l.take k) n = none) (hne : (lfAt l k).1 ≠ n) : leafGet (l.take (k + 1)) n = none := by
  rw [take_next l k h]
  simp only [leafGet, Option.map_eq_none_iff] at hx ⊢
  rw [List.find?_append, hx]
  simp [hne]
theorem get_here {l : List Lf} {k : Nat} {n : Bs} (h : k < l.length) (hx : leafGet (l.take k) n = none) (he : (lfAt l k).1 = n) : leafGet l n = some (lfAt l k).2 := by
  have e : leafGet l n = leafGet (l.take (k + 1) ++ l.drop (k + 1)) n := by rw [List.take_append_drop]
  rw [e, take_next l k h]
  simp only [leafGet, Option.map_eq_none_iff] at hx ⊢
  rw [List.find?_append, List.find?_append, hx]
  simp [he]
theorem filter_next {f : Lf → Bool} {l : List Lf} {k : Nat} (h : k < l.length) : (l.take (k + 1)).filter f = (l.take k).filter f ++ (if f (lfAt l k) = true then [lfAt l k] else []) := by
  rw [take_next l k h, List.filter_append]
  congr 1
  cases hf : f (lfAt l k) <;> simp [hf]
theorem without_next {l : List Lf} {k : Nat} {n : Bs} (h : k < l.length) : without (l.take (k + 1)) n = without (l.take k) n ++ (if (lfAt l k).1 = n then [] else [lfAt l k]) := by
  unfold without
  rw [filter_next h]
  by_cases he : (lfAt l k).1 = n <;> simp [he]
def lowL (l : List Lf) (n : Bs) : List Lf := l.filter fun x => ltB x.1 n
def highL (l : List Lf) (n : Bs) : List Lf := l.filter fun x => !(ltB x.1 n || decide (x.1 = n))
def putL (l : List Lf) (n v : Bs) : List Lf := lowL (without l n) n ++ [(n, v)] ++ highL (without l n) n
/-- What the reference's LeafPut answers. -/
def putR (l : List Lf) (n v : Bs) : List Lf × Bool := bif leavesOk l && leavesOk (putL l n v) then (putL l n v, true) else (l, false)
/-- One step of the program's. -/
def insS (n v : Bs) (s : List Lf × Bool) (x : Lf) : List Lf × Bool :=
  ((bif !s.2 && !ltB x.1 n then s.1 ++ [(n, v)] else s.1) ++ (if x.1 = n then [] else [x]), s.2 || !ltB x.1 n)
def insF (l : List Lf) (n v : Bs) : List Lf × Bool := l.foldl (insS n v) ([], false)
def insL (l : List Lf) (n v : Bs) : List Lf := bif (insF l n v).2 then (insF l n v).1 else (insF l n v).1 ++ [(n, v)]
def insR (l : List Lf) (n v : Bs) : List Lf × Bool := bif leavesOk l && leavesOk (insL l n v) then (insL l n v, true) else (l, false)
theorem insF_next {l : List Lf} {k : Nat} {n v : Bs} (h : k < l.length) : insF (l.take (k + 1)) n v = insS n v (insF (l.take k) n v) (lfAt l k) := by
  rw [take_next l k h]; simp [insF]
theorem insF_len (n v : Bs) : ∀ (l : List Lf) (k : Nat), (insF (l.take k) n v).1.length ≤ 2 * k := by
  have : ∀ (l : List Lf) (s : List Lf × Bool), (l.foldl (insS n v) s).1.length ≤ s.1.length + 2 * l.length := by
    intro l
    induction l with
    | nil => intro s; simp
    | cons x l ih =>
      intro s
      have := ih (insS n v s x)
      have h2 : (insS n v s x).1.length ≤ s.1.length + 2 := by
        simp only [insS, List.length_append]
        have a : (bif !s.2 && !ltB x.1 n then s.1 ++ [(n, v)] else s.1).length ≤ s.1.length + 1 := by
          cases (!s.2 && !ltB x.1 n) <;> simp
        have b : (if x.1 = n then ([] : List Lf) else [x]).length ≤ 1 := by split <;> simp
        omega
      simp only [List.foldl_cons, List.length_cons]
      omega
  intro l k
  have h := this (l.take k) ([], false)
  simp only [List.length_nil, Nat.zero_add, List.length_take] at h
  have : min k l.length ≤ k := Nat.min_le_left _ _
  unfold insF
  omega
def dropR (l : List Lf) (n : Bs) : List Lf × Bool := bif (leafGet l n).isSome && leavesOk l then (without l n, true) else (l, false)
theorem lowL_next {l : List Lf} {k : Nat} {n : Bs} (h : k < l.length) : lowL (l.take (k + 1)) n = lowL (l.take k) n ++ (if ltB (lfAt l k).1 n = true then [lfAt l k] else []) := filter_next h
theorem highL_next {l : List Lf} {k : Nat} {n : Bs} (h : k < l.length) : highL (l.take (k + 1)) n = highL (l.take k) n ++ (if (!(ltB (lfAt l k).1 n || decide ((lfAt l k).1 = n))) = true then [lfAt l k] else []) := filter_next h
end Go.Proofs.Ytkdajahiaedoiaa.Pl
