/- Plain: who is blamed: the houses of the pairs, each once, rising: by insertion, and by a set that is sorted behind it. -/
import Derived.Test.YtfjbinbpgdiafaaGreatDoorPlainM
namespace Go.Proofs.YtfjbinbpgdiafaaGreatDoor.Pl
set_option linter.unusedVariables false
set_option linter.unusedSimpArgs false
set_option linter.unusedSectionVars false
def insH (l : List Int) (x : Int) : List Int := l.filter (fun y => decide (y < x)) ++ x :: l.filter (fun y => decide (x < y))
def addH (l : List Int) (x : Int) : List Int := if l.contains x then l else l ++ [x]
def z4q (hs : List Int) : List Int := hs.foldl insH []
def z1X (hs : List Int) : List Int := hs.foldl addH []
theorem zb2 (hs : List Int) (x : Int) : z4q (hs ++ [x]) = insH (z4q hs) x := by simp [z4q]
theorem z6p (hs : List Int) (x : Int) : z1X (hs ++ [x]) = addH (z1X hs) x := by simp [z1X]
theorem zb3 {p : Int → Bool} : ∀ {l : List Int}, (∀ y ∈ l, p y = true) → l.filter p = l := fun {l} h => List.filter_eq_self.2 h
theorem zcq {p : Int → Bool} {l : List Int} (h : ∀ y ∈ l, p y = false) : l.filter p = [] := List.filter_eq_nil_iff.2 fun y hy => by rw [h y hy]; decide
theorem zcr {x : Int} : ∀ {l : List Int}, l.Pairwise (· < ·) → x ∈ l → insH l x = l
 | [], _, h => by cases h
 | y :: l, hp, h => by
   obtain ⟨h1, h2⟩ := List.pairwise_cons.1 hp
   unfold insH
   rcases List.mem_cons.1 h with rfl | hx
   ·rw [List.filter_cons_of_neg (by simp), List.filter_cons_of_neg (by simp), zcq fun z hz => by have := h1 z hz; simp; omega, zb3 fun z hz => by have := h1 z hz; simpa using this]
    rfl
   ·have hyx := h1 x hx
    rw [List.filter_cons_of_pos (by simpa using hyx), List.filter_cons_of_neg (by simp; omega)]
    have := zcr h2 hx
    unfold insH at this
    rw [List.cons_append, this]
theorem zdH {l : List Int} {x : Int} (hx : x ∉ l) : (insH l x).Perm (x :: l) := by
 have e : l.filter (fun y => decide (x < y)) = l.filter (fun y => !decide (y < x)) := by
  apply List.filter_congr
  intro y hy
  have : y ≠ x := fun c => hx (c ▸ hy)
  by_cases h : y < x
  ·simp [h]; omega
  ·simp [h]; omega
 unfold insH
 refine List.perm_middle.trans (List.Perm.cons x ?_)
 rw [e]
 exact List.filter_append_perm _ _
theorem z91 {l : List Int} {x : Int} (h : l.Pairwise (· < ·)) : (insH l x).Pairwise (· < ·) := by
 unfold insH
 refine List.pairwise_append.2 ⟨h.filter _, List.pairwise_cons.2 ⟨fun y hy => ?_, h.filter _⟩, fun a ha b hb => ?_⟩
 ·have := (List.mem_filter.1 hy).2
  simpa using this
 ·have h1 := (List.mem_filter.1 ha).2
  simp only [decide_eq_true_eq] at h1
  rcases List.mem_cons.1 hb with rfl | hb
  ·exact h1
  ·have h2 := (List.mem_filter.1 hb).2
   simp only [decide_eq_true_eq] at h2
   omega
theorem z3n : ∀ (hs s a : List Int), s.Pairwise (· < ·) → s.Perm a → (hs.foldl insH s).Pairwise (· < ·) ∧ (hs.foldl insH s).Perm (hs.foldl addH a)
 | [], s, a, h1, h2 => ⟨h1, h2⟩
 | x :: hs, s, a, h1, h2 => by
   rw [List.foldl_cons, List.foldl_cons]
   refine z3n hs _ _ (z91 h1) ?_
   unfold addH
   by_cases hx : x ∈ s
   ·rw [zcr h1 hx, if_pos (by simpa using h2.mem_iff.1 hx)]
    exact h2
   ·rw [if_neg (by simpa using fun c => hx (h2.mem_iff.2 c))]
    refine (zdH hx).trans ?_
    exact (List.Perm.cons x h2).trans (List.perm_append_singleton x a).symm
theorem z8b (hs : List Int) : (z1X hs).mergeSort (fun x y => decide (x ≤ y)) = z4q hs := by
 obtain ⟨h1, h2⟩ := z3n hs [] [] List.Pairwise.nil (List.Perm.refl _)
 have tr : ∀ a b c : Int, decide (a ≤ b) = true → decide (b ≤ c) = true → decide (a ≤ c) = true := fun a b c h1 h2 => by simp only [decide_eq_true_eq] at *; omega
 have to : ∀ a b : Int, (decide (a ≤ b) || decide (b ≤ a)) = true := fun a b => by simp only [Bool.or_eq_true, decide_eq_true_eq]; omega
 refine List.Perm.eq_of_pairwise (le := fun a b => decide (a ≤ b) = true) (fun a b _ _ k1 k2 => ?_) (List.pairwise_mergeSort tr to _) (h1.imp fun h => by simp only [decide_eq_true_eq]; omega) ((List.mergeSort_perm _ _).trans h2.symm)
 simp only [decide_eq_true_eq] at k1 k2
 omega
theorem zac (hs : List Int) : (z4q hs).length ≤ hs.length := by
 have h2 := (z3n hs [] [] List.Pairwise.nil (List.Perm.refl _)).2
 have : ∀ (hs a : List Int), (hs.foldl addH a).length ≤ a.length + hs.length := by
  intro hs
  induction hs with
  | nil => intro a; simp
  | cons x hs ih =>
    intro a
    have := ih (addH a x)
    have h3 : (addH a x).length ≤ a.length + 1 := by unfold addH; split <;> simp
    rw [List.foldl_cons, List.length_cons]
    omega
 have h3 := this hs []
 have h4 : (z4q hs).length = (hs.foldl addH []).length := h2.length_eq
 simp only [List.length_nil] at h3
 omega
theorem z78 {l : List Int} {x y : Int} : y ∈ addH l x ↔ y ∈ l ∨ y = x := by
 unfold addH
 split
 ·rename_i h
  have h : x ∈ l := by simpa using h
  exact ⟨.inl, fun c => c.elim id fun e => e ▸ h⟩
 ·simp
end Go.Proofs.YtfjbinbpgdiafaaGreatDoor.Pl
