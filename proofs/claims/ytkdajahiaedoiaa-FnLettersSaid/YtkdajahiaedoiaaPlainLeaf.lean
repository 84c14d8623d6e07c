/- Plain: entries. -/
import Derived.Test.YtkdajahiaedoiaaPlainLetter
namespace Go.Proofs.Ytkdajahiaedoiaa.Pl
abbrev Lf := Bs × Bs
def ltB (a b : Bs) : Bool := Op.bytesLess a b
def lfAt (l : List Lf) (i : Nat) : Lf := l.getD i ([], [])
def stepOk (l : List Lf) (i : Nat) : Bool := nameOk (lfAt l i).1 && valueOk (lfAt l i).2 && (i == 0 || ltB (lfAt l (i - 1)).1 (lfAt l i).1)
def leavesOk (l : List Lf) : Bool := decide (l.length ≤ 24) && (List.range l.length).all (stepOk l)
theorem leavesOk_bad {l : List Lf} {k : Nat} (hk : k < l.length) (h : stepOk l k = false) : leavesOk l = false := by
  have : (List.range l.length).all (stepOk l) = false := by
    rw [List.all_eq_false]
    exact ⟨k, List.mem_range.2 hk, by simp [h]⟩
  rw [leavesOk, this, Bool.and_false]
theorem leavesOk_long {l : List Lf} (h : 24 < l.length) : leavesOk l = false := by
  have : decide (l.length ≤ 24) = false := by simp; omega
  rw [leavesOk, this, Bool.false_and]
theorem leavesOk_good {l : List Lf} (hl : l.length ≤ 24) (h : ∀ k, k < l.length → stepOk l k = true) : leavesOk l = true := by
  have h1 : decide (l.length ≤ 24) = true := by simpa using hl
  have h2 : (List.range l.length).all (stepOk l) = true := List.all_eq_true.2 fun k hk => h k (List.mem_range.1 hk)
  rw [leavesOk, h1, h2]; rfl
theorem leavesOk_iff {l : List Lf} : leavesOk l = true ↔ l.length ≤ 24 ∧ ∀ k, k < l.length → stepOk l k = true := by
  constructor
  · intro h
    rw [leavesOk, Bool.and_eq_true, decide_eq_true_iff, List.all_eq_true] at h
    exact ⟨h.1, fun k hk => h.2 k (List.mem_range.2 hk)⟩
  · rintro ⟨h1, h2⟩; exact leavesOk_good h1 h2
/-- The bytes of entries. -/
def lfText (x : Lf) : Bs := shortText x.1 ++ shortText x.2
def leavesText (l : List Lf) : Bs := varText l.length ++ l.flatMap lfText

/-! ### marks -/
def decG (k : Nat) (out : Bs) : Bs := if k = 0 then out else decG (k / 10) (UInt8.ofNat (48 + k % 10) :: out)
termination_by k
decreasing_by omega
theorem decG_zero (out : Bs) : decG 0 out = out := by rw [decG, if_pos rfl]
theorem decG_step {k : Nat} (h : k ≠ 0) (out : Bs) : decG k out = decG (k / 10) (UInt8.ofNat (48 + k % 10) :: out) := by rw [decG, if_neg h]
def markText (k : Nat) : Bs := if k = 0 then [109, 48] else 109 :: decG k []

/-! ### reading entries -/
abbrev Sh := Nat → Bool → Bs × Nat × Bool
def lvLoop (sh : Sh) : Nat → Nat → Bool → List Lf × Nat × Bool
  | 0, p, b => ([], p, b)
  | _ + 1, p, true => ([], p, true)
  | n + 1, p, false => (((sh p false).1, (sh (sh p false).2.1 (sh p false).2.2).1) :: (lvLoop sh n (sh (sh p false).2.1 (sh p false).2.2).2.1 (sh (sh p false).2.1 (sh p false).2.2).2.2).1,
      (lvLoop sh n (sh (sh p false).2.1 (sh p false).2.2).2.1 (sh (sh p false).2.1 (sh p false).2.2).2.2).2)
/-- What is read is l and then what the loop reads from here on. -/
def LvAt (sh : Sh) (R : List Lf × Nat × Bool) (n : Nat) (l : List Lf) (q : Nat) (b : Bool) : Prop := R = (l ++ (lvLoop sh n q b).1, (lvLoop sh n q b).2)
theorem LvAt.start (sh : Sh) (n q : Nat) (b : Bool) : LvAt sh (lvLoop sh n q b) n [] q b := rfl
theorem LvAt.step {sh : Sh} {R : List Lf × Nat × Bool} {n q q1 q2 : Nat} {l : List Lf} {a v : Bs} {b1 b2 : Bool} (h : LvAt sh R (n + 1) l q false) (h1 : sh q false = (a, q1, b1)) (h2 : sh q1 b1 = (v, q2, b2)) : LvAt sh R n (l ++ [(a, v)]) q2 b2 := by
  unfold LvAt at h ⊢
  rw [h, lvLoop, h1]
  simp only [h2]
  simp
theorem LvAt.done {sh : Sh} {R : List Lf × Nat × Bool} {q : Nat} {l : List Lf} {b : Bool} (h : LvAt sh R 0 l q b) : R = (l, q, b) := by
  unfold LvAt at h; rw [h, lvLoop]; simp
theorem LvAt.bad {sh : Sh} {R : List Lf × Nat × Bool} {n q : Nat} {l : List Lf} (h : LvAt sh R n l q true) : R = (l, q, true) := by
  unfold LvAt at h; rw [h]
  cases n <;> simp [lvLoop]
/-- What the program's reader reads for entries. -/
def leavesI (t : Bs) (p : Nat) (bad : Bool) : List Lf × Nat × Bool :=
  let r := lvLoop (shortOf t) (numOf t p bad).1 (numOf t p bad).2.1 (if 24 < (numOf t p bad).1 then true else (numOf t p bad).2.2)
  (r.1, r.2.1, r.2.2 || !leavesOk r.1)
/-- What the reference's reader reads for entries. -/
def leavesS (t : Bs) (p : Nat) (bad : Bool) : List Lf × Nat × Bool :=
  lvLoop (shortS t) (min (numS t p bad).1 30) (numS t p bad).2.1 (numS t p bad).2.2
end Go.Proofs.Ytkdajahiaedoiaa.Pl
