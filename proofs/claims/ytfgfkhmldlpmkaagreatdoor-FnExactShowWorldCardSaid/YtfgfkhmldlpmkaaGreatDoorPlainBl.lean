/- Plain: who is blamed: the houses of the pairs, each once, rising: by insertion, and by a set that is sorted behind it. -/
import Derived.Test.YtfgfkhmldlpmkaaGreatDoorPlainA
set_option linter.unusedVariables false
set_option linter.unusedSimpArgs false
namespace Go.Proofs.YtfgfkhmldlpmkaaGreatDoor.Pl
/-- The reference: put in where it belongs, or not again. -/
def insH (l : List Int) (x : Int) : List Int := l.filter (fun y => decide (y < x)) ++ x :: l.filter (fun y => decide (x < y))
/-- The program: behind the others, unless it is there. -/
def addH (l : List Int) (x : Int) : List Int := if l.contains x then l else l ++ [x]
def insHs (hs : List Int) : List Int := hs.foldl insH []
def addHs (hs : List Int) : List Int := hs.foldl addH []
theorem insHs_next (hs : List Int) (x : Int) : insHs (hs ++ [x]) = insH (insHs hs) x := by simp [insHs]
theorem addHs_next (hs : List Int) (x : Int) : addHs (hs ++ [x]) = addH (addHs hs) x := by simp [addHs]
theorem filter_all {p : Int → Bool} : ∀ {l : List Int}, (∀ y ∈ l, p y = true) → l.filter p = l := fun {l} h => List.filter_eq_self.2 h
theorem filter_no {p : Int → Bool} {l : List Int} (h : ∀ y ∈ l, p y = false) : l.filter p = [] := List.filter_eq_nil_iff.2 fun y hy => by rw [h y hy]; decide
theorem insH_in {x : Int} : ∀ {l : List Int}, l.Pairwise (· < ·) → x ∈ l → insH l x = l
  | [], _, h => by cases h
  | y :: l, hp, h => by
    obtain ⟨h1, h2⟩ := List.pairwise_cons.1 hp
    unfold insH
    rcases List.mem_cons.1 h with rfl | hx
    · rw [List.filter_cons_of_neg (by simp), List.filter_cons_of_neg (by simp), filter_no fun z hz => by have := h1 z hz; simp; omega, filter_all fun z hz => by have := h1 z hz; simpa using this]
      rfl
    · have hyx := h1 x hx
      rw [List.filter_cons_of_pos (by simpa using hyx), List.filter_cons_of_neg (by simp; omega)]
      have := insH_in h2 hx
      unfold insH at this
      rw [List.cons_append, this]
theorem insH_out {l : List Int} {x : Int} (hx : x ∉ l) : (insH l x).Perm (x :: l) := by
  have e : l.filter (fun y => decide (x < y)) = l.filter (fun y => !decide (y < x)) := by
    apply List.filter_congr
    intro y hy
    have : y ≠ x := fun c => hx (c ▸ hy)
    by_cases h : y < x
    · simp [h]; omega
    · simp [h]; omega
  unfold insH
  refine List.perm_middle.trans (List.Perm.cons x ?_)
  rw [e]
  exact List.filter_append_perm _ _
theorem insH_sorted {l : List Int} {x : Int} (h : l.Pairwise (· < ·)) : (insH l x).Pairwise (· < ·) := by
  unfold insH
  refine List.pairwise_append.2 ⟨h.filter _, List.pairwise_cons.2 ⟨fun y hy => ?_, h.filter _⟩, fun a ha b hb => ?_⟩
  · have := (List.mem_filter.1 hy).2
    simpa using this
  · have h1 := (List.mem_filter.1 ha).2
    simp only [decide_eq_true_eq] at h1
    rcases List.mem_cons.1 hb with rfl | hb
    · exact h1
    · have h2 := (List.mem_filter.1 hb).2
      simp only [decide_eq_true_eq] at h2
      omega
theorem ins_add : ∀ (hs s a : List Int), s.Pairwise (· < ·) → s.Perm a → (hs.foldl insH s).Pairwise (· < ·) ∧ (hs.foldl insH s).Perm (hs.foldl addH a)
  | [], s, a, h1, h2 => ⟨h1, h2⟩
  | x :: hs, s, a, h1, h2 => by
    rw [List.foldl_cons, List.foldl_cons]
    refine ins_add hs _ _ (insH_sorted h1) ?_
    unfold addH
    by_cases hx : x ∈ s
    · rw [insH_in h1 hx, if_pos (by simpa using h2.mem_iff.1 hx)]
      exact h2
    · rw [if_neg (by simpa using fun c => hx (h2.mem_iff.2 c))]
      refine (insH_out hx).trans ?_
      exact (List.Perm.cons x h2).trans (List.perm_append_singleton x a).symm
/-- Both ways give one list. -/
theorem blamed_eq (hs : List Int) : (addHs hs).mergeSort (fun x y => decide (x ≤ y)) = insHs hs := by
  obtain ⟨h1, h2⟩ := ins_add hs [] [] List.Pairwise.nil (List.Perm.refl _)
  have tr : ∀ a b c : Int, decide (a ≤ b) = true → decide (b ≤ c) = true → decide (a ≤ c) = true := fun a b c h1 h2 => by simp only [decide_eq_true_eq] at *; omega
  have to : ∀ a b : Int, (decide (a ≤ b) || decide (b ≤ a)) = true := fun a b => by simp only [Bool.or_eq_true, decide_eq_true_eq]; omega
  refine List.Perm.eq_of_pairwise (le := fun a b => decide (a ≤ b) = true) (fun a b _ _ k1 k2 => ?_) (List.pairwise_mergeSort tr to _) (h1.imp fun h => by simp only [decide_eq_true_eq]; omega) ((List.mergeSort_perm _ _).trans h2.symm)
  simp only [decide_eq_true_eq] at k1 k2
  omega
theorem insHs_le (hs : List Int) : (insHs hs).length ≤ hs.length := by
  have h2 := (ins_add hs [] [] List.Pairwise.nil (List.Perm.refl _)).2
  have : ∀ (hs a : List Int), (hs.foldl addH a).length ≤ a.length + hs.length := by
    intro hs
    induction hs with
    | nil => intro a; simp
    | cons x hs ih =>
      intro a
      have := ih (addH a x)
      have h3 : (addH a x).length ≤ a.length + 1 := by unfold addH; split <;> simp
      rw [List.foldl_cons, List.length_cons]
      omega
  have h3 := this hs []
  have h4 : (insHs hs).length = (hs.foldl addH []).length := h2.length_eq
  simp only [List.length_nil] at h3
  omega
theorem addH_mem {l : List Int} {x y : Int} : y ∈ addH l x ↔ y ∈ l ∨ y = x := by
  unfold addH
  split
  · rename_i h
    have h : x ∈ l := by simpa using h
    exact ⟨.inl, fun c => c.elim id fun e => e ▸ h⟩
  · simp
end Go.Proofs.YtfgfkhmldlpmkaaGreatDoor.Pl
