/- Plain: changes are applied one by one; the last change of a name counts. -/
import Derived.Test.YtkgfidphcpklhaaDoorPlainA
set_option linter.unusedSimpArgs false
namespace Go.Proofs.YtkgfidphcpklhaaDoor.Pl
set_option linter.unusedVariables false
abbrev Ch := Int × Bs × Bs
def applyI (l : List Lf) (u : Ch) : List Lf := bif u.2.2.isEmpty then (dropR l u.2.1).1 else (insR l u.2.1 u.2.2).1
def applyS (l : List Lf) (u : Ch) : List Lf := bif u.2.2.isEmpty then (dropR l u.2.1).1 else (putR l u.2.1 u.2.2).1
def ChGood (u : Ch) : Prop := nameOk u.2.1 = true ∧ (u.2.2 = [] ∨ valueOk u.2.2 = true)
theorem dropR_ok {l : List Lf} {n : Bs} (h : leavesOk l = true) : leavesOk (dropR l n).1 = true := by
  unfold dropR
  cases (leafGet l n).isSome && leavesOk l
  · exact h
  · exact without_ok h
theorem insR_ok {l : List Lf} {n v : Bs} (h : leavesOk l = true) : leavesOk (insR l n v).1 = true := by
  unfold insR
  rw [h, Bool.true_and]
  cases h2 : leavesOk (insL l n v)
  · exact h
  · exact h2
theorem applyI_ok {l : List Lf} {u : Ch} (h : leavesOk l = true) : leavesOk (applyI l u) = true := by
  unfold applyI
  cases u.2.2.isEmpty
  · exact insR_ok h
  · exact dropR_ok h
theorem insR_putR {l : List Lf} {n v : Bs} (h : leavesOk l = true) : insR l n v = putR l n v := by
  rw [insR, putR, ins_put (ok_sorted h).2.2]
theorem applyS_eq {l : List Lf} {u : Ch} (h : leavesOk l = true) : applyS l u = applyI l u := by
  rw [applyS, applyI, insR_putR h]
theorem fold_ok {us : List Ch} : ∀ {l : List Lf}, leavesOk l = true → leavesOk (us.foldl applyI l) = true := by
  induction us with
  | nil => exact fun h => h
  | cons u us ih => exact fun h => ih (applyI_ok h)
theorem fold_eq {us : List Ch} : ∀ {l : List Lf}, leavesOk l = true → us.foldl applyS l = us.foldl applyI l := by
  induction us with
  | nil => exact fun _ => rfl
  | cons u us ih => intro l h; rw [List.foldl_cons, List.foldl_cons, applyS_eq h]; exact ih (applyI_ok h)
/-- What a list tells of a name. -/
def tells (l : List Lf) (n : Bs) : Bs × Bool := ((leafGet l n).getD [], (leafGet l n).isSome)
theorem get_drop_same {l : List Lf} {n : Bs} (h : leavesOk l = true) : leafGet (dropR l n).1 n = none := by
  unfold dropR
  cases hg : leafGet l n with
  | none => simp [hg]
  | some v => simp only [h, Option.isSome_some, Bool.and_self, cond_true]; exact get_none fun x hx => (without_mem.1 hx).2
theorem get_without {l : List Lf} {n m : Bs} (h : Sorted l) (hne : m ≠ n) : leafGet (without l n) m = leafGet l m := by
  cases hg : leafGet l m with
  | some v => exact (get_iff (h.filter _)).2 (without_mem.2 ⟨(get_iff h).1 hg, hne⟩)
  | none =>
    refine get_none fun x hx e => ?_
    have hm := (without_mem.1 hx).1
    have : (m, x.2) ∈ l := by rw [← e]; exact hm
    rw [(get_iff h).2 this] at hg; cases hg
theorem get_drop_other {l : List Lf} {n m : Bs} (h : leavesOk l = true) (hne : m ≠ n) : leafGet (dropR l n).1 m = leafGet l m := by
  unfold dropR
  cases (leafGet l n).isSome && leavesOk l
  · rfl
  · exact get_without (ok_sorted h).2.2 hne
theorem get_put_other {l : List Lf} {n m v : Bs} (h : Sorted l) (hne : m ≠ n) : leafGet (putL l n v) m = leafGet l m := by
  have hS := put_sorted h (n := n) (v := v)
  cases hg : leafGet l m with
  | some w => exact (get_iff hS).2 (put_mem.2 (.inr ⟨(get_iff h).1 hg, hne⟩))
  | none =>
    refine get_none fun x hx e => ?_
    rcases put_mem.1 hx with rfl | hx
    · exact hne e.symm
    · have : (m, x.2) ∈ l := by rw [← e]; exact hx.1
      rw [(get_iff h).2 this] at hg; cases hg
theorem insR_yes {l : List Lf} {n v : Bs} (h : leavesOk l = true) (hl : l.length < 24) (hlen : (putL l n v).length ≤ l.length + 1) (hn : nameOk n = true) (hv : valueOk v = true) : insR l n v = (putL l n v, true) := by
  rw [insR, ins_put (ok_sorted h).2.2, h, put_ok h hl hlen hn hv]; rfl
theorem valueOk_ne {v : Bs} (h : valueOk v = true) : v.isEmpty = false := by
  cases v with
  | nil => cases h
  | cons _ _ => rfl
theorem apply_same {l : List Lf} {u : Ch} (h : leavesOk l = true) (hl : l.length < 24) (hlen : ∀ n v, (putL l n v).length ≤ l.length + 1) (hu : ChGood u) : tells (applyI l u) u.2.1 = (u.2.2, !u.2.2.isEmpty) := by
  obtain ⟨hn, hv⟩ := hu
  rcases hv with hv | hv
  · have e : applyI l u = (dropR l u.2.1).1 := by rw [applyI, hv]; rfl
    rw [e, tells, get_drop_same h, hv]; rfl
  · have e : applyI l u = putL l u.2.1 u.2.2 := by rw [applyI, valueOk_ne hv, cond_false, insR_yes h hl (hlen _ _) hn hv]
    have hS := put_sorted (ok_sorted h).2.2 (n := u.2.1) (v := u.2.2)
    rw [e, tells, (get_iff hS).2 (put_mem.2 (.inl rfl)), valueOk_ne hv]; rfl
theorem apply_other {l : List Lf} {u : Ch} {m : Bs} (h : leavesOk l = true) (hl : l.length < 24) (hlen : ∀ n v, (putL l n v).length ≤ l.length + 1) (hu : ChGood u) (hne : m ≠ u.2.1) : tells (applyI l u) m = tells l m := by
  obtain ⟨hn, hv⟩ := hu
  rcases hv with hv | hv
  · have e : applyI l u = (dropR l u.2.1).1 := by rw [applyI, hv]; rfl
    rw [e, tells, get_drop_other h hne]; rfl
  · have e : applyI l u = putL l u.2.1 u.2.2 := by rw [applyI, valueOk_ne hv, cond_false, insR_yes h hl (hlen _ _) hn hv]
    rw [e, tells, get_put_other (ok_sorted h).2.2 hne]; rfl
theorem apply_len {l : List Lf} {u : Ch} (h : leavesOk l = true) (hl : l.length < 24) (hlen : ∀ n v, (putL l n v).length ≤ l.length + 1) (hu : ChGood u) : (applyI l u).length ≤ l.length + 1 := by
  obtain ⟨hn, hv⟩ := hu
  rcases hv with hv | hv
  · have e : applyI l u = (dropR l u.2.1).1 := by rw [applyI, hv]; rfl
    rw [e, dropR]
    have : (without l u.2.1).length ≤ l.length := List.length_filter_le _ _
    cases (leafGet l u.2.1).isSome && leavesOk l <;> simp <;> omega
  · have e : applyI l u = putL l u.2.1 u.2.2 := by rw [applyI, valueOk_ne hv, cond_false, insR_yes h hl (hlen _ _) hn hv]
    rw [e]; exact hlen _ _
/-- The last change of a name counts. -/
theorem fold_tells (hlen : ∀ l n v, (putL l n v).length ≤ l.length + 1) : ∀ {us : List Ch} {l : List Lf}, leavesOk l = true → l.length + us.length ≤ 24 → (∀ u ∈ us, ChGood u) → ∀ {n : Bs}, (∀ u ∈ us, u.2.1 ≠ n) → tells (us.foldl applyI l) n = tells l n
  | [], l, _, _, _, n, _ => rfl
  | u :: us, l, h, hl, hu, n, hn => by
    simp only [List.length_cons] at hl
    rw [List.foldl_cons, fold_tells hlen (applyI_ok h) (by have := apply_len h (by omega) (hlen l) (hu u (by simp)); omega) (fun x hx => hu x (by simp [hx])) (fun x hx => hn x (by simp [hx]))]
    exact apply_other h (by omega) (hlen l) (hu u (by simp)) (fun e => hn u (by simp) e.symm)
theorem last_counts (hlen : ∀ l n v, (putL l n v).length ≤ l.length + 1) {us : List Ch} {l : List Lf} (h : leavesOk l = true) (hl : l.length + us.length ≤ 24) (hu : ∀ u ∈ us, ChGood u) {i : Nat} (hi : i < us.length)
    (hlast : ∀ k (hk : k < us.length), i < k → us[k].2.1 ≠ us[i].2.1) : tells (us.foldl applyI l) us[i].2.1 = (us[i].2.2, !us[i].2.2.isEmpty) := by
  have e : us = us.take i ++ us[i] :: us.drop (i + 1) := by rw [← List.drop_eq_getElem_cons hi, List.take_append_drop]
  have len_fold : ∀ (vs : List Ch) (m : List Lf), leavesOk m = true → m.length + vs.length ≤ 24 → (∀ u ∈ vs, ChGood u) → (vs.foldl applyI m).length ≤ m.length + vs.length := by
    intro vs
    induction vs with
    | nil => intro m _ _ _; simp
    | cons v vs ih =>
      intro m hm hml hv
      simp only [List.length_cons] at hml ⊢
      have h1 := apply_len hm (by omega) (hlen m) (hv v (by simp))
      have h2 := ih (applyI m v) (applyI_ok hm) (by omega) (fun x hx => hv x (by simp [hx]))
      rw [List.foldl_cons]; omega
  have htl : (us.take i).length = i := by simp; omega
  have hm : leavesOk ((us.take i).foldl applyI l) = true := fold_ok h
  have hml := len_fold (us.take i) l h (by omega) (fun x hx => hu x (List.mem_of_mem_take hx))
  have hgi := hu us[i] (List.getElem_mem hi)
  have e2 : us.foldl applyI l = (us.drop (i + 1)).foldl applyI (applyI ((us.take i).foldl applyI l) us[i]) := by
    conv => lhs; rw [e]
    rw [List.foldl_append, List.foldl_cons]
  have hal := apply_len hm (by omega) (hlen _) hgi
  rw [e2, fold_tells hlen (applyI_ok hm) (by simp; omega) (fun x hx => hu x (List.mem_of_mem_drop hx)) (fun x hx => ?_)]
  · exact apply_same hm (by omega) (hlen _) hgi
  · obtain ⟨j, hj, rfl⟩ := List.getElem_of_mem hx
    simp at hj
    rw [List.getElem_drop]
    exact hlast (i + 1 + j) (by omega) (by omega)
end Go.Proofs.YtkgfidphcpklhaaDoor.Pl
