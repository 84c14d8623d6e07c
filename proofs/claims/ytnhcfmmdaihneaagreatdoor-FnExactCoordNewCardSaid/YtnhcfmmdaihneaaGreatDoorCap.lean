/- Functions by content: changes: their tests, texts, readers, and how they are applied. Changes: both readers agree; what is read back. Plain: disks, files of framed records, and what a shard makes of a record. -/
import Derived.Test.YtnhcfmmdaihneaaGreatDoorFb
import Derived.Test.YtnhcfmmdaihneaaGreatDoorOld
import Derived.Test.YtnhcfmmdaihneaaGreatDoorFc
import Derived.Test.YtnhcfmmdaihneaaGreatDoorPlainM
namespace Go.Proofs.YtnhcfmmdaihneaaGreatDoor
set_option linter.unusedVariables false
set_option linter.unusedSimpArgs false
set_option linter.unusedSectionVars false
open Go.RowKit Pl
attribute [local irreducible] z0w z0x z0A AnsP LeP
theorem z0h {k : Nat} (l : List Lf) : ownE (.row k (lvE l)) := by
 intro e he c hc
 simp only [lvE, List.mem_map] at he
 obtain ⟨x, _, rfl⟩ := he
 simp only [List.mem_cons, List.not_mem_nil, or_false] at hc
 rcases hc with rfl | rfl <;> trivial
end Go.Proofs.YtnhcfmmdaihneaaGreatDoor
namespace Go.Proofs.YtnhcfmmdaihneaaGreatDoor
set_option linter.unusedVariables false
set_option linter.unusedSimpArgs false
set_option linter.unusedSectionVars false
open Go.RowKit Pl
end Go.Proofs.YtnhcfmmdaihneaaGreatDoor
namespace Go.Proofs.YtnhcfmmdaihneaaGreatDoor
set_option linter.unusedVariables false
set_option linter.unusedSimpArgs false
set_option linter.unusedSectionVars false
open Pl
abbrev Fl := Bs × Bs × Int
def flAt (l : List Fl) (k : Nat) : Fl := l.getD k ([], [], 0)
theorem zgx {l : List Fl} {k : Nat} (h : k < l.length) : flAt l k = l[k] := by simp [flAt, List.getD, List.getElem?_eq_getElem h]
def z2S (l : List Fl) (i : Nat) : Bool := inB ((flAt l i).1.length : Int) 1 8 && decide (((flAt l i).2.1.length : Int) ≤ 20000) && inB (flAt l i).2.2 0 ((flAt l i).2.1.length : Int) && (i == 0 || ltB (flAt l (i - 1)).1 (flAt l i).1)
def z2N (l : List Fl) : Bool := decide (l.length ≤ 30) && (List.range l.length).all (z2S l)
theorem z43 {l : List Fl} {k : Nat} (hk : k < l.length) (h : z2S l k = false) : z2N l = false := by
 have : (List.range l.length).all (z2S l) = false := by
  rw [List.all_eq_false]
  exact ⟨k, List.mem_range.2 hk, by simp [h]⟩
 rw [z2N, this, Bool.and_false]
theorem z7h {l : List Fl} (h : 30 < l.length) : z2N l = false := by
 have : decide (l.length ≤ 30) = false := by simp; omega
 rw [z2N, this, Bool.false_and]
theorem z4C {l : List Fl} (hl : l.length ≤ 30) (h : ∀ k, k < l.length → z2S l k = true) : z2N l = true := by
 have h1 : decide (l.length ≤ 30) = true := by simpa using hl
 have h2 : (List.range l.length).all (z2S l) = true := List.all_eq_true.2 fun k hk => h k (List.mem_range.1 hk)
 rw [z2N, h1, h2]; rfl
theorem zeF {l : List Fl} : z2N l = true ↔ l.length ≤ 30 ∧ ∀ k, k < l.length → z2S l k = true := by
 constructor
 ·intro h
  rw [z2N, Bool.and_eq_true, decide_eq_true_iff, List.all_eq_true] at h
  exact ⟨h.1, fun k hk => h.2 k (List.mem_range.2 hk)⟩
 ·rintro ⟨h1, h2⟩; exact z4C h1 h2
theorem zeG {l : List Fl} {k : Nat} (h : z2S l k = true) : (flAt l k).2.1.length ≤ 20000 := by
 simp only [z2S, Bool.and_eq_true, decide_eq_true_eq] at h
 have := h.1.1.2
 omega
def z3C (l : List Fl) (n : Bs) : Option Nat := l.findIdx? fun x => x.1 == n
theorem zgy {l : List Fl} {n : Bs} {k : Nat} (h : k < l.length) (hx : ∀ j, j < k → (flAt l j).1 ≠ n) (he : (flAt l k).1 = n) : z3C l n = some k := by
 rw [z3C, List.findIdx?_eq_some_iff_getElem]
 refine ⟨h, by rw [← zgx h, he]; simp, fun j hj => ?_⟩
 have := hx j hj
 rw [zgx (by omega)] at this
 simpa using this
theorem zgz {l : List Fl} {n : Bs} (hx : ∀ j, j < l.length → (flAt l j).1 ≠ n) : z3C l n = none := by
 rw [z3C, List.findIdx?_eq_none_iff]
 intro x hm
 obtain ⟨j, hj, rfl⟩ := List.getElem_of_mem hm
 have := hx j hj
 rw [zgx hj] at this
 simpa using this
theorem zkO {l : List Fl} {n : Bs} {k : Nat} (h : z3C l n = some k) : k < l.length := by
 rw [z3C, List.findIdx?_eq_some_iff_getElem] at h
 exact h.1
def ixI : Option Nat → Int
 | some k => (k : Int)
 | none => -1
def z2t (l : List Fl) (n : Bs) : Option Bs := (z3C l n).map fun i => (flAt l i).2.1
theorem zbX {l : List Fl} {n t : Bs} (h : z2N l = true) (hg : z2t l n = some t) : t.length ≤ 20000 := by
 unfold z2t at hg
 cases hi : z3C l n with
 | none => rw [hi] at hg; cases hg
 | some k =>
   rw [hi] at hg
   injection hg with hg
   subst hg
   exact zeG ((zeF.1 h).2 k (zkO hi))
def z7i (t : Bs) : Bs := z0r t.length ++ z3n (z3F t) ++ t
def unf (f : Bs) : Nat → Nat → List Bs × Nat
 | 0, p => ([], p)
 | k + 1, p => match z0B f p with
   | none => ([], p)
   | some (n, q) => if 1 ≤ n ∧ n ≤ 9000 ∧ n + 4 ≤ f.length - q ∧ (f.drop q).take 4 = z3n (z3F ((f.drop (q + 4)).take n)) then
      (((f.drop (q + 4)).take n) :: (unf f k (q + 4 + n)).1, (unf f k (q + 4 + n)).2)
     else ([], p)
def z0Y (f : Bs) : List Bs × Nat := if 20000 < f.length then ([], 0) else unf f (f.length + 1) 0
def UfAt (R : List Bs × Nat) (f : Bs) (k : Nat) (l : List Bs) (p : Nat) : Prop := R = (l ++ (unf f k p).1, (unf f k p).2)
theorem UfAt.stop {R : List Bs × Nat} {f : Bs} {k : Nat} {l : List Bs} {p : Nat} (h : UfAt R f (k + 1) l p) (hr : z0B f p = none) : R = (l, p) := by
 rw [h, unf, hr]; simp
theorem UfAt.bad {R : List Bs × Nat} {f : Bs} {k : Nat} {l : List Bs} {p n q : Nat} (h : UfAt R f (k + 1) l p) (hr : z0B f p = some (n, q))
 (hn : ¬ (1 ≤ n ∧ n ≤ 9000 ∧ n + 4 ≤ f.length - q ∧ (f.drop q).take 4 = z3n (z3F ((f.drop (q + 4)).take n)))) : R = (l, p) := by
 rw [h, unf, hr]; simp only; rw [if_neg hn]; simp
theorem UfAt.step {R : List Bs × Nat} {f : Bs} {k : Nat} {l : List Bs} {p n q : Nat} (h : UfAt R f (k + 1) l p) (hr : z0B f p = some (n, q))
 (hn : 1 ≤ n ∧ n ≤ 9000 ∧ n + 4 ≤ f.length - q ∧ (f.drop q).take 4 = z3n (z3F ((f.drop (q + 4)).take n))) : UfAt R f k (l ++ [(f.drop (q + 4)).take n]) (q + 4 + n) := by
 unfold UfAt at h ⊢
 rw [h, unf, hr]; simp only; rw [if_pos hn]; simp
theorem zaw (f : Bs) : ∀ k p, (∀ t ∈ (unf f k p).1, 1 ≤ t.length ∧ t.length ≤ 9000) ∧ (unf f k p).1.length ≤ k
 | 0, p => ⟨fun t h => by simp [unf] at h, by simp [unf]⟩
 | k + 1, p => by
   rw [unf]
   split
   ·exact ⟨fun t h => by simp at h, by simp⟩
   ·rename_i n q hr
    split
    ·rename_i hc
     have ih := zaw f k (q + 4 + n)
     refine ⟨fun t h => ?_, by simp; exact ih.2⟩
     simp only [List.mem_cons] at h
     rcases h with rfl | h
     ·simp; omega
     ·exact ih.1 t h
    ·exact ⟨fun t h => by simp at h, by simp⟩
theorem z9d (f : Bs) : (∀ t ∈ (z0Y f).1, 1 ≤ t.length ∧ t.length ≤ 9000) ∧ (z0Y f).1.length ≤ 20001 := by
 unfold z0Y
 split
 ·exact ⟨fun t h => by simp at h, by simp⟩
 ·have := zaw f (f.length + 1) 0
  exact ⟨this.1, by have := this.2; omega⟩
theorem zgA {f : Bs} {p n q : Nat} (hr : z0B f p = some (n, q)) (hn : n + 4 ≤ f.length - q) :
 z7i ((f.drop (q + 4)).take n) = (f.drop p).take (q + 4 + n - p) ↔ (f.drop q).take 4 = z3n (z3F ((f.drop (q + 4)).take n)) := by
 obtain ⟨he, hq⟩ := z4v hr
 have hl : ((f.drop (q + 4)).take n).length = n := by simp; omega
 have e : (f.drop p).take (q + 4 + n - p) = z0r n ++ (f.drop q).take 4 ++ (f.drop (q + 4)).take n := by
  rw [he, hq, show p + (z0r n).length + 4 + n - p = (z0r n).length + (4 + n) by omega, List.take_length_add_append, List.take_add, List.drop_drop, List.append_assoc]
 rw [e, z7i, hl, List.append_cancel_right_eq, List.append_cancel_left_eq]
 exact eq_comm
def z0i (l : List Fl) (n : Bs) : List Bs := if z2N l = true then (z0Y ((z2t l n).getD [])).1 else []
theorem z0Z (l : List Fl) (n : Bs) : (∀ t ∈ z0i l n, 1 ≤ t.length ∧ t.length ≤ 9000) ∧ (z0i l n).length ≤ 20001 := by
 unfold z0i
 split
 ·exact z9d _
 ·exact ⟨fun t h => by simp at h, by simp⟩
structure Sv where
 ep : Nat
 vs : List (List Lf)
 tk : List Nat
 al : List Ch
 re : Nat
 rt : Nat
 rk : Nat
inductive Rk where
 | no | all (u : Ch) | rdy (e y k : Nat) | com
def num1 (t : Bs) : Nat × Nat × Bool := z0W t 1 false
structure SvOk (n : Nat) (s : Sv) : Prop where
 ep : s.ep ≤ 4
 vl : s.vs.length = s.ep + 1
 tl : s.tk.length = s.ep + 1
 al : s.al.length ≤ n
 tb : ∀ x ∈ s.tk, x ≤ s.al.length
 ch : ∀ u ∈ s.al, z0z u.1 u.2.1 u.2.2 = true
 re : s.re = 0 ∨ s.re = s.ep + 1
 r4 : s.re ≤ 4
 rt : s.rt ≤ 1000
 rk : s.rk ≤ s.al.length
 vo : ∀ v ∈ s.vs, z0k v = true
end Go.Proofs.YtnhcfmmdaihneaaGreatDoor
