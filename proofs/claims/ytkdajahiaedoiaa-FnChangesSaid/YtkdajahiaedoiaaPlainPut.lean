/- Plain: what holds of an entry that is put, and of one that is dropped; entries are read as they were written. -/
import Derived.Test.YtkdajahiaedoiaaPlainCut
namespace Go.Proofs.Ytkdajahiaedoiaa.Pl
set_option linter.unusedVariables false
theorem lt_nil (a : Bs) : ltB a [] = false := by cases a <;> rfl
theorem lt_cons (a b : UInt8) (x y : Bs) : ltB (a :: x) (b :: y) = (decide (a < b) || (a == b && ltB x y)) := rfl
theorem lt_irrefl : ∀ a : Bs, ltB a a = false
  | [] => rfl
  | a :: x => by rw [lt_cons, lt_irrefl x]; simp
theorem lt_trans : ∀ {a b c : Bs}, ltB a b = true → ltB b c = true → ltB a c = true
  | _, [], _, h, _ => by rw [lt_nil] at h; cases h
  | _, _, [], _, h => by rw [lt_nil] at h; cases h
  | [], _ :: _, _ :: _, _, _ => rfl
  | a :: x, b :: y, c :: z, h, k => by
    rw [lt_cons] at h k ⊢
    simp only [Bool.or_eq_true, decide_eq_true_eq, Bool.and_eq_true, beq_iff_eq] at h k ⊢
    rcases h with h | ⟨rfl, h⟩
    · rcases k with k | ⟨rfl, k⟩
      · exact .inl (UInt8.lt_trans h k)
      · exact .inl h
    · rcases k with k | ⟨rfl, k⟩
      · exact .inl k
      · exact .inr ⟨rfl, lt_trans h k⟩
theorem lt_tri : ∀ {a b : Bs}, ltB a b = false → a ≠ b → ltB b a = true
  | [], [], _, h => absurd rfl h
  | [], _ :: _, h, _ => by cases h
  | _ :: _, [], _, _ => rfl
  | a :: x, b :: y, h, k => by
    rw [lt_cons] at h ⊢
    simp only [Bool.or_eq_false_iff, decide_eq_false_iff_not, Bool.and_eq_false_iff, beq_eq_false_iff_ne] at h
    simp only [Bool.or_eq_true, decide_eq_true_eq, Bool.and_eq_true, beq_iff_eq]
    by_cases e : a = b
    · subst e
      refine .inr ⟨rfl, lt_tri (h.2.resolve_left fun h => h rfl) fun e => k (by rw [e])⟩
    · left
      have h1 := h.1
      have h2 : a.toNat ≠ b.toNat := fun h => e (UInt8.toNat_inj.1 h)
      rw [UInt8.lt_iff_toNat_lt] at h1 ⊢
      omega
def Sorted (l : List Lf) : Prop := l.Pairwise fun a b => ltB a.1 b.1 = true
theorem ok_sorted {l : List Lf} (h : leavesOk l = true) : l.length ≤ 24 ∧ (∀ x ∈ l, nameOk x.1 = true ∧ valueOk x.2 = true) ∧ Sorted l := by
  obtain ⟨h1, h2⟩ := leavesOk_iff.1 h
  have st : ∀ k (hk : k < l.length), nameOk l[k].1 = true ∧ valueOk l[k].2 = true ∧ (k = 0 ∨ ltB (lfAt l (k - 1)).1 l[k].1 = true) := fun k hk => by
    have := h2 k hk
    rw [stepOk, lf_at hk] at this
    simpa [and_assoc] using this
  refine ⟨h1, fun x hx => ?_, ?_⟩
  · obtain ⟨k, hk, rfl⟩ := List.getElem_of_mem hx
    exact ⟨(st k hk).1, (st k hk).2.1⟩
  · rw [Sorted, List.pairwise_iff_getElem]
    intro i j hi hj hij
    have key : ∀ d, (h : i + d + 1 < l.length) → ltB l[i].1 l[i + d + 1].1 = true := by
      intro d
      induction d with
      | zero =>
        intro h
        have := ((st (i + 1) h).2.2).resolve_left (by omega)
        rwa [Nat.add_sub_cancel, lf_at hi] at this
      | succ d ih =>
        intro h
        have a := ih (by omega)
        have b := ((st (i + (d + 1) + 1) h).2.2).resolve_left (by omega)
        rw [Nat.add_sub_cancel, lf_at (show i + (d + 1) < l.length by omega)] at b
        exact lt_trans a b
    have := key (j - i - 1) (by omega)
    simpa [show i + (j - i - 1) + 1 = j by omega] using this
theorem sorted_ok {l : List Lf} (h1 : l.length ≤ 24) (h2 : ∀ x ∈ l, nameOk x.1 = true ∧ valueOk x.2 = true) (h3 : Sorted l) : leavesOk l = true := by
  refine leavesOk_iff.2 ⟨h1, fun k hk => ?_⟩
  rw [stepOk, lf_at hk, (h2 _ (List.getElem_mem hk)).1, (h2 _ (List.getElem_mem hk)).2]
  cases k with
  | zero => rfl
  | succ k =>
    rw [Nat.add_sub_cancel, lf_at (show k < l.length by omega)]
    have := (List.pairwise_iff_getElem.1 h3) k (k + 1) (by omega) hk (by omega)
    rw [this]; rfl
theorem Sorted.filter {l : List Lf} (h : Sorted l) (f : Lf → Bool) : Sorted (l.filter f) := List.Pairwise.filter _ h
theorem get_iff {l : List Lf} (h : Sorted l) {n w : Bs} : leafGet l n = some w ↔ (n, w) ∈ l := by
  induction l with
  | nil => simp [leafGet]
  | cons x l ih =>
    have hs := List.pairwise_cons.1 h
    by_cases he : x.1 = n
    · subst he
      have hno : (x.1, w) ∉ l := fun hm => by have := hs.1 _ hm; rw [lt_irrefl] at this; cases this
      simp only [leafGet, List.find?_cons, beq_self_eq_true, Option.map_some, List.mem_cons, hno, or_false]
      constructor
      · intro e; injection e with e; rw [← e]
      · intro e; rw [← e]
    · have e1 : leafGet (x :: l) n = leafGet l n := by
        have : (x.1 == n) = false := by simpa using he
        simp only [leafGet, List.find?_cons, this]
      rw [e1, ih hs.2, List.mem_cons]
      constructor
      · exact .inr
      · rintro (e | e)
        · exact absurd (by rw [← e]) he
        · exact e
theorem get_none {l : List Lf} {n : Bs} (h : ∀ x ∈ l, x.1 ≠ n) : leafGet l n = none := by
  rw [leafGet, Option.map_eq_none_iff, List.find?_eq_none]
  intro x hx
  simpa using h x hx
theorem without_mem {l : List Lf} {n : Bs} {x : Lf} : x ∈ without l n ↔ x ∈ l ∧ x.1 ≠ n := by simp [without]
theorem low_mem {l : List Lf} {n : Bs} {x : Lf} : x ∈ lowL l n ↔ x ∈ l ∧ ltB x.1 n = true := by simp [lowL]
theorem high_mem {l : List Lf} {n : Bs} {x : Lf} : x ∈ highL l n ↔ x ∈ l ∧ ltB x.1 n = false ∧ x.1 ≠ n := by simp [highL]
theorem put_mem {l : List Lf} {n v : Bs} {x : Lf} : x ∈ putL l n v ↔ x = (n, v) ∨ (x ∈ l ∧ x.1 ≠ n) := by
  rw [putL, List.mem_append, List.mem_append, low_mem, high_mem, without_mem, List.mem_singleton]
  constructor
  · rintro ((h | h) | h)
    · exact .inr h.1
    · exact .inl h
    · exact .inr h.1
  · rintro (h | h)
    · exact .inl (.inr h)
    · cases hl : ltB x.1 n
      · exact .inr ⟨h, rfl, h.2⟩
      · exact .inl (.inl ⟨h, rfl⟩)
theorem put_sorted {l : List Lf} {n v : Bs} (h : Sorted l) : Sorted (putL l n v) := by
  have hw : Sorted (without l n) := h.filter _
  rw [Sorted, putL, List.append_assoc, List.pairwise_append]
  refine ⟨hw.filter _, ?_, ?_⟩
  · rw [List.singleton_append, List.pairwise_cons]
    refine ⟨fun x hx => ?_, hw.filter _⟩
    obtain ⟨_, h1, h2⟩ := high_mem.1 hx
    exact lt_tri h1 h2
  · intro a ha b hb
    obtain ⟨_, h1⟩ := low_mem.1 ha
    rw [List.singleton_append, List.mem_cons] at hb
    rcases hb with rfl | hb
    · exact h1
    · obtain ⟨_, h2, h3⟩ := high_mem.1 hb
      exact lt_trans h1 (lt_tri h2 h3)
theorem put_ok {l : List Lf} {n v : Bs} (h : leavesOk l = true) (hl : l.length < 24) (hlen : (putL l n v).length ≤ l.length + 1) (hn : nameOk n = true) (hv : valueOk v = true) : leavesOk (putL l n v) = true := by
  obtain ⟨_, h2, h3⟩ := ok_sorted h
  refine sorted_ok (by omega) (fun x hx => ?_) (put_sorted h3)
  rcases put_mem.1 hx with rfl | hx
  · exact ⟨hn, hv⟩
  · exact h2 x hx.1
theorem insS_true {n v : Bs} : ∀ {l acc : List Lf}, l.foldl (insS n v) (acc, true) = (acc ++ without l n, true)
  | [], acc => by simp [without]
  | x :: l, acc => by
    rw [List.foldl_cons]
    have e : insS n v (acc, true) x = (acc ++ (if x.1 = n then [] else [x]), true) := by simp [insS]
    rw [e, insS_true]
    by_cases h : x.1 = n <;> simp [without, h]
theorem insS_false {n v : Bs} : ∀ {l acc : List Lf}, Sorted l → (bif (l.foldl (insS n v) (acc, false)).2 then (l.foldl (insS n v) (acc, false)).1 else (l.foldl (insS n v) (acc, false)).1 ++ [(n, v)]) = acc ++ putL l n v
  | [], acc, _ => by simp [putL, without, lowL, highL]
  | x :: l, acc, h => by
    obtain ⟨h1, h2⟩ := List.pairwise_cons.1 h
    rw [List.foldl_cons]
    cases hx : ltB x.1 n
    · have e : insS n v (acc, false) x = (acc ++ [(n, v)] ++ (if x.1 = n then [] else [x]), true) := by simp [insS, hx]
      rw [e, insS_true]
      have hge : ∀ y ∈ without (x :: l) n, ltB y.1 n = false := fun y hy => by
        rcases List.mem_cons.1 (without_mem.1 hy).1 with rfl | hm
        · exact hx
        · cases hc : ltB y.1 n
          · rfl
          · rw [lt_trans (h1 y hm) hc] at hx; cases hx
      have hne : ∀ y ∈ without (x :: l) n, y.1 ≠ n := fun y hy => (without_mem.1 hy).2
      have elow : lowL (without (x :: l) n) n = [] := by
        rw [lowL, List.filter_eq_nil_iff]
        intro y hy; rw [hge y hy]; simp
      have ehigh : highL (without (x :: l) n) n = without (x :: l) n := by
        rw [highL, List.filter_eq_self]
        intro y hy; rw [hge y hy]; simp [hne y hy]
      rw [putL, elow, ehigh, cond_true]
      by_cases he : x.1 = n <;> simp [without, he]
    · have hne : x.1 ≠ n := fun e => by rw [e, lt_irrefl] at hx; cases hx
      have e : insS n v (acc, false) x = (acc ++ [x], false) := by simp [insS, hx, hne]
      rw [e, insS_false (l := l) h2]
      have e2 : putL (x :: l) n v = x :: putL l n v := by simp [putL, without, lowL, highL, hx, hne]
      rw [e2]; simp
theorem ins_put {l : List Lf} {n v : Bs} (h : Sorted l) : insL l n v = putL l n v := by
  have := insS_false (n := n) (v := v) (acc := []) h
  rw [List.nil_append] at this
  exact this
theorem without_ok {l : List Lf} {n : Bs} (h : leavesOk l = true) : leavesOk (without l n) = true := by
  obtain ⟨h1, h2, h3⟩ := ok_sorted h
  exact sorted_ok (Nat.le_trans (List.length_filter_le _ _) h1) (fun x hx => h2 x (without_mem.1 hx).1) (h3.filter _)
theorem without_put_len (l : List Lf) (n v : Bs) : (without (putL l n v) n).length + 1 = (putL l n v).length := by
  have key : ∀ r : List Lf, (∀ x ∈ r, x.1 ≠ n) → without r n = r := fun r h => by
    rw [without, List.filter_eq_self]; intro x hx; simpa using h x hx
  have hl := key (lowL (without l n) n) fun x hx => (without_mem.1 (low_mem.1 hx).1).2
  have hh := key (highL (without l n) n) fun x hx => (without_mem.1 (high_mem.1 hx).1).2
  have e : without (putL l n v) n = without (lowL (without l n) n) n ++ without (highL (without l n) n) n := by
    simp [putL, without]
  rw [e, hl, hh, putL]
  simp; omega
/-- Entries are read as they were written. -/
theorem lvLoop_dec {t : Bs} : ∀ {l : List Lf} {p : Nat} {r : Bs}, (∀ x ∈ l, x.1.length ≤ 20000 ∧ x.2.length ≤ 20000) → t.drop p = l.flatMap lfText ++ r → lvLoop (shortOf t) l.length p false = (l, p + (l.flatMap lfText).length, false)
  | [], p, r, _, _ => by simp [lvLoop]
  | x :: l, p, r, hs, h => by
    have h0 : t.drop p = shortText x.1 ++ (shortText x.2 ++ (l.flatMap lfText ++ r)) := by rw [h]; simp [lfText]
    have hx := hs x (by simp)
    have e1 := shortOf_dec hx.1 h0 false
    have hd1 : t.drop (p + (shortText x.1).length) = shortText x.2 ++ (l.flatMap lfText ++ r) := by
      rw [← List.drop_drop, h0, List.drop_left]
    have e2 := shortOf_dec hx.2 hd1 false
    have hd2 : t.drop (p + (shortText x.1).length + (shortText x.2).length) = l.flatMap lfText ++ r := by
      rw [← List.drop_drop, hd1, List.drop_left]
    have ih := lvLoop_dec (fun y hy => hs y (by simp [hy])) hd2
    rw [List.length_cons, lvLoop, e1]
    simp only [e2, ih]
    simp [lfText]
    omega
theorem nameOk_len {s : Bs} (h : nameOk s = true) : s.length ≤ 12 := by
  simp [nameOk, allN] at h; exact h.1.2
theorem valueOk_len {s : Bs} (h : valueOk s = true) : s.length ≤ 12 := by
  simp [valueOk, allN] at h; exact h.1.2
theorem readLv_text {l : List Lf} (h : leavesOk l = true) : readLvI (leavesText l) = some l := by
  obtain ⟨h1, h2, _⟩ := ok_sorted h
  have hN : numOf (leavesText l) 0 false = (l.length, 0 + (varText l.length).length, false) := numOf_dec (by omega) (r := l.flatMap lfText) (by rw [List.drop_zero]; rfl) false
  have hL : lvLoop (shortOf (leavesText l)) l.length (0 + (varText l.length).length) false = (l, 0 + (varText l.length).length + (l.flatMap lfText).length, false) :=
    lvLoop_dec (r := []) (fun x hx => by have := nameOk_len (h2 x hx).1; have := valueOk_len (h2 x hx).2; omega) (by rw [leavesText, Nat.zero_add, List.drop_left]; simp)
  have hno : ¬ 24 < l.length := by omega
  simp only [readLvI, leavesI, hN, if_neg hno, hL, h]
  have : (leavesText l).length = (varText l.length).length + (l.flatMap lfText).length := by rw [leavesText, List.length_append]
  simp [doneB, this]
end Go.Proofs.Ytkdajahiaedoiaa.Pl
