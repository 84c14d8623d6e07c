/- Plain: the checksum. Plain: what is read is what was written, and the other way round. Plain: letters. Plain: entries. Entries, no program in sight: both readers agree. Plain: an entry is looked up, put, dropped. Plain: what holds of an entry that is put, and of one that is dropped; entries are read as they were written. Plain: proofs are read as they were written, by the program and by the reference alike. Plain: changes are applied one by one; the last change of a name counts. -/
import Derived.Test.YtfgkjgfigjpkoaaDoorPlain
import Derived.Laws.BitsAllLaws
namespace Go.Proofs.YtfgkjgfigjpkoaaDoor.Pl
set_option linter.unusedVariables false
set_option linter.unusedSimpArgs false
set_option linter.unusedSectionVars false
end Go.Proofs.YtfgkjgfigjpkoaaDoor.Pl
namespace Go.Proofs.YtfgkjgfigjpkoaaDoor.Pl
set_option linter.unusedVariables false
set_option linter.unusedSimpArgs false
set_option linter.unusedSectionVars false
end Go.Proofs.YtfgkjgfigjpkoaaDoor.Pl
namespace Go.Proofs.YtfgkjgfigjpkoaaDoor.Pl
set_option linter.unusedVariables false
set_option linter.unusedSimpArgs false
set_option linter.unusedSectionVars false
def inB (n lo hi : Int) : Bool := decide (lo ≤ n) && decide (n ≤ hi)
abbrev Lt := Nat × Nat × Nat × Nat × Nat × Bs
end Go.Proofs.YtfgkjgfigjpkoaaDoor.Pl
namespace Go.Proofs.YtfgkjgfigjpkoaaDoor.Pl
set_option linter.unusedVariables false
set_option linter.unusedSimpArgs false
set_option linter.unusedSectionVars false
abbrev Lf := Bs × Bs
def ltB (a b : Bs) : Bool := Op.bytesLess a b
def decG (k : Nat) (out : Bs) : Bs := if k = 0 then out else decG (k / 10) (UInt8.ofNat (48 + k % 10) :: out)
termination_by k
decreasing_by omega
theorem z5h (out : Bs) : decG 0 out = out := by rw [decG, if_pos rfl]
theorem z5i {k : Nat} (h : k ≠ 0) (out : Bs) : decG k out = decG (k / 10) (UInt8.ofNat (48 + k % 10) :: out) := by rw [decG, if_neg h]
abbrev Sh := Nat → Bool → Bs × Nat × Bool
def z2F (sh : Sh) : Nat → Nat → Bool → List Lf × Nat × Bool
 | 0, p, b => ([], p, b)
 | _ + 1, p, true => ([], p, true)
 | n + 1, p, false => (((sh p false).1, (sh (sh p false).2.1 (sh p false).2.2).1) :: (z2F sh n (sh (sh p false).2.1 (sh p false).2.2).2.1 (sh (sh p false).2.1 (sh p false).2.2).2.2).1,
     (z2F sh n (sh (sh p false).2.1 (sh p false).2.2).2.1 (sh (sh p false).2.1 (sh p false).2.2).2.2).2)
def LvAt (sh : Sh) (R : List Lf × Nat × Bool) (n : Nat) (l : List Lf) (q : Nat) (b : Bool) : Prop := R = (l ++ (z2F sh n q b).1, (z2F sh n q b).2)
theorem LvAt.start (sh : Sh) (n q : Nat) (b : Bool) : LvAt sh (z2F sh n q b) n [] q b := rfl
theorem LvAt.step {sh : Sh} {R : List Lf × Nat × Bool} {n q q1 q2 : Nat} {l : List Lf} {a v : Bs} {b1 b2 : Bool} (h : LvAt sh R (n + 1) l q false) (h1 : sh q false = (a, q1, b1)) (h2 : sh q1 b1 = (v, q2, b2)) : LvAt sh R n (l ++ [(a, v)]) q2 b2 := by
 unfold LvAt at h ⊢
 rw [h, z2F, h1]
 simp only [h2]
 simp
theorem LvAt.done {sh : Sh} {R : List Lf × Nat × Bool} {q : Nat} {l : List Lf} {b : Bool} (h : LvAt sh R 0 l q b) : R = (l, q, b) := by
 unfold LvAt at h; rw [h, z2F]; simp
theorem LvAt.bad {sh : Sh} {R : List Lf × Nat × Bool} {n q : Nat} {l : List Lf} (h : LvAt sh R n l q true) : R = (l, q, true) := by
 unfold LvAt at h; rw [h]
 cases n <;> simp [z2F]
end Go.Proofs.YtfgkjgfigjpkoaaDoor.Pl
namespace Go.Proofs.YtfgkjgfigjpkoaaDoor.Pl
set_option linter.unusedVariables false
set_option linter.unusedSimpArgs false
set_option linter.unusedSectionVars false
end Go.Proofs.YtfgkjgfigjpkoaaDoor.Pl
namespace Go.Proofs.YtfgkjgfigjpkoaaDoor.Pl
set_option linter.unusedVariables false
set_option linter.unusedSimpArgs false
set_option linter.unusedSectionVars false
def z8t (l : List Lf) (n : Bs) : Option Bs := (l.find? fun x => x.1 == n).map (·.2)
def zbd (l : List Lf) (n : Bs) : List Lf := l.filter fun x => x.1 != n
end Go.Proofs.YtfgkjgfigjpkoaaDoor.Pl
namespace Go.Proofs.YtfgkjgfigjpkoaaDoor.Pl
set_option linter.unusedVariables false
set_option linter.unusedSimpArgs false
set_option linter.unusedSectionVars false
theorem zaA (a : Bs) : ltB a [] = false := by cases a <;> rfl
theorem z8u (a b : UInt8) (x y : Bs) : ltB (a :: x) (b :: y) = (decide (a < b) || (a == b && ltB x y)) := rfl
theorem lt_irrefl : ∀ a : Bs, ltB a a = false
 | [] => rfl
 | a :: x => by rw [z8u, lt_irrefl x]; simp
theorem lt_trans : ∀ {a b c : Bs}, ltB a b = true → ltB b c = true → ltB a c = true
 | _, [], _, h, _ => by rw [zaA] at h; cases h
 | _, _, [], _, h => by rw [zaA] at h; cases h
 | [], _ :: _, _ :: _, _, _ => rfl
 | a :: x, b :: y, c :: z, h, k => by
   rw [z8u] at h k ⊢
   simp only [Bool.or_eq_true, decide_eq_true_eq, Bool.and_eq_true, beq_iff_eq] at h k ⊢
   rcases h with h | ⟨rfl, h⟩
   ·rcases k with k | ⟨rfl, k⟩
    ·exact .inl (UInt8.lt_trans h k)
    ·exact .inl h
   ·rcases k with k | ⟨rfl, k⟩
    ·exact .inl k
    ·exact .inr ⟨rfl, lt_trans h k⟩
def Sorted (l : List Lf) : Prop := l.Pairwise fun a b => ltB a.1 b.1 = true
theorem Sorted.filter {l : List Lf} (h : Sorted l) (f : Lf → Bool) : Sorted (l.filter f) := List.Pairwise.filter _ h
end Go.Proofs.YtfgkjgfigjpkoaaDoor.Pl
namespace Go.Proofs.YtfgkjgfigjpkoaaDoor.Pl
set_option linter.unusedVariables false
set_option linter.unusedSimpArgs false
set_option linter.unusedSectionVars false
end Go.Proofs.YtfgkjgfigjpkoaaDoor.Pl
namespace Go.Proofs.YtfgkjgfigjpkoaaDoor.Pl
set_option linter.unusedVariables false
set_option linter.unusedSimpArgs false
set_option linter.unusedSectionVars false
abbrev Ch := Int × Bs × Bs
def tells (l : List Lf) (n : Bs) : Bs × Bool := ((z8t l n).getD [], (z8t l n).isSome)
end Go.Proofs.YtfgkjgfigjpkoaaDoor.Pl
