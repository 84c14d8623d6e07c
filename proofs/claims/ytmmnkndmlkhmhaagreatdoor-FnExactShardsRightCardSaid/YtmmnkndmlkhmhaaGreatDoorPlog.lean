/- Changes: both readers agree; what is read back. Plain: disks, files of framed records, and what a shard makes of a record. -/
import Derived.Test.YtmmnkndmlkhmhaaGreatDoorCA
import Derived.Test.YtmmnkndmlkhmhaaGreatDoorPlainTree
namespace Go.Proofs.YtmmnkndmlkhmhaaGreatDoor
open Go.RowKit Pl
set_option linter.unusedVariables false
set_option linter.unusedSimpArgs false

theorem chg_agree (t : Bs) : readChangeI t = readChangeS t := by
  rcases hA : numOf t 0 false with ⟨a, p1, b1⟩
  rcases hN : shortOf t p1 b1 with ⟨n, p2, b2⟩
  rcases hV : shortOf t p2 b2 with ⟨v, p3, b3⟩
  simp only [readChangeI, hA, hN, hV]
  simp only [readChangeS, numS_good, hA]
  cases b1
  · simp only [shortS_good, hN]
    cases b2
    · simp only [shortS_good, hV]
      cases b3
      · obtain ⟨_, _, e1, l1⟩ := numOf_enc hA
        obtain ⟨_, _, e2, l2⟩ := shortOf_enc hN
        obtain ⟨_, _, e3, l3⟩ := shortOf_enc hV
        have et : t = changeText a n v ++ t.drop p3 := by
          have : t = t.drop 0 := rfl
          conv => lhs; rw [this, e1, e2, e3]
          simp [changeText]
        have el : p3 = (changeText a n v).length := by simp [changeText]; omega
        by_cases hd : t.drop p3 = []
        · have h1 : p3 = t.length := by rw [hd, List.append_nil] at et; rw [el, ← et]
          have h2 : changeText a n v = t := by rw [hd, List.append_nil] at et; exact et.symm
          simp [doneB, h1, h2]
        · have h1 : p3 ≠ t.length := fun c => hd (List.drop_eq_nil_of_le (by omega))
          have h2 : changeText a n v ≠ t := fun c => h1 (by rw [el, c])
          simp [doneB, h1, h2]
      · simp [doneB]
    · have h3 := shortOf_bad t p2
      rw [hV] at h3
      simp only at h3
      subst h3
      simp [doneB, shortS]
  · have h2 := shortOf_bad t p1
    rw [hN] at h2
    simp only at h2
    subst h2
    have h3 := shortOf_bad t p2
    rw [hV] at h3
    simp only at h3
    subst h3
    simp [doneB, shortS]

theorem chg_text {t : Bs} {a : Nat} {n v : Bs} (h : readChangeI t = some (a, n, v)) : chText ((a : Int), n, v) = t := by
  rw [chg_agree] at h
  rcases hA : numS t 0 false with ⟨a', p1, b1⟩
  rcases hN : shortS t p1 b1 with ⟨n', p2, b2⟩
  rcases hV : shortS t p2 b2 with ⟨v', p3, b3⟩
  simp only [readChangeS, hA, hN, hV] at h
  split at h
  · rename_i hc
    injection h with h
    simp only [Prod.mk.injEq] at h
    obtain ⟨rfl, rfl, rfl⟩ := h
    rw [chText, hc.2.1]; exact hc.2.2
  · cases h
theorem chg_fit {t : Bs} {a : Nat} {n v : Bs} (h : readChangeI t = some (a, n, v)) : ChFit ((a : Int), n, v) := by
  rw [chg_agree] at h
  rcases hA : numS t 0 false with ⟨a', p1, b1⟩
  rcases hN : shortS t p1 b1 with ⟨n', p2, b2⟩
  rcases hV : shortS t p2 b2 with ⟨v', p3, b3⟩
  simp only [readChangeS, hA, hN, hV] at h
  split at h
  · rename_i hc
    injection h with h
    simp only [Prod.mk.injEq] at h
    obtain ⟨rfl, rfl, rfl⟩ := h
    have ho := hc.2.1
    unfold changeOk at ho
    simp only [Bool.and_eq_true, Bool.or_eq_true, decide_eq_true_eq] at ho
    have h1 := nameOk_len ho.1.2
    refine ⟨by show (n'.length : Int) ≤ _; omega, ?_⟩
    show (v'.length : Int) ≤ _
    rcases ho.2 with h2 | h2
    · cases v' with
      | nil => simp
      | cons _ _ => cases h2
    · have := valueOk_len h2; omega
  · cases h
theorem chg_read {a : Nat} {n v : Bs} (h : changeOk (a : Int) n v = true) : readChangeI (changeText (a : Int) n v) = some (a, n, v) := by
  have hb : (a : Int) ≤ 99 ∧ n.length ≤ 12 ∧ v.length ≤ 12 := by
    unfold changeOk at h
    simp only [Bool.and_eq_true, Bool.or_eq_true, decide_eq_true_eq] at h
    refine ⟨h.1.1.2, nameOk_len h.1.2, ?_⟩
    rcases h.2 with h | h
    · cases v with
      | nil => simp
      | cons _ _ => cases h
    · exact valueOk_len h
  have h0 : (changeText (a : Int) n v).drop 0 = varText a ++ (shortText n ++ shortText v) := by simp [changeText]
  have hA := numOf_dec (by omega) h0 false
  have hd1 : (changeText (a : Int) n v).drop (0 + (varText a).length) = shortText n ++ shortText v := by rw [← List.drop_drop, h0, List.drop_left]
  have hN := shortOf_dec (by omega) hd1 false
  have hd2 : (changeText (a : Int) n v).drop (0 + (varText a).length + (shortText n).length) = shortText v ++ [] := by rw [← List.drop_drop, hd1, List.drop_left, List.append_nil]
  have hV := shortOf_dec (by omega) hd2 false
  simp only [readChangeI, hA, hN, hV, h]
  have hl : (changeText (a : Int) n v).length = (varText a).length + (shortText n).length + (shortText v).length := by simp [changeText, Nat.add_assoc]
  simp [doneB, hl]
/-- A drawn change: valid, of small parts. -/
theorem readChangeI_ok {t : Bs} {a : Nat} {n v : Bs} (h : readChangeI t = some (a, n, v)) : changeOk (a : Int) n v = true := by
  rcases hA : numOf t 0 false with ⟨a', p1, b1⟩
  rcases hN : shortOf t p1 b1 with ⟨n', p2, b2⟩
  rcases hV : shortOf t p2 b2 with ⟨v', p3, b3⟩
  simp only [readChangeI, hA, hN, hV] at h
  split at h
  · rename_i hc
    injection h with h
    simp only [Prod.mk.injEq] at h
    obtain ⟨rfl, rfl, rfl⟩ := h
    simp only [Bool.and_eq_true] at hc
    exact hc.2
  · cases h
end Go.Proofs.YtmmnkndmlkhmhaaGreatDoor
namespace Go.Proofs.YtmmnkndmlkhmhaaGreatDoor
open Pl
set_option linter.unusedVariables false
set_option linter.unusedSimpArgs false

/-! ### disks: name, text, how much of it is kept -/
abbrev Fl := Bs × Bs × Int
def flAt (l : List Fl) (k : Nat) : Fl := l.getD k ([], [], 0)
theorem fl_at {l : List Fl} {k : Nat} (h : k < l.length) : flAt l k = l[k] := by simp [flAt, List.getD, List.getElem?_eq_getElem h]
def stepF (l : List Fl) (i : Nat) : Bool := inB ((flAt l i).1.length : Int) 1 8 && decide (((flAt l i).2.1.length : Int) ≤ 20000) && inB (flAt l i).2.2 0 ((flAt l i).2.1.length : Int) && (i == 0 || ltB (flAt l (i - 1)).1 (flAt l i).1)
def diskOk (l : List Fl) : Bool := decide (l.length ≤ 30) && (List.range l.length).all (stepF l)
theorem diskOk_bad {l : List Fl} {k : Nat} (hk : k < l.length) (h : stepF l k = false) : diskOk l = false := by
  have : (List.range l.length).all (stepF l) = false := by
    rw [List.all_eq_false]
    exact ⟨k, List.mem_range.2 hk, by simp [h]⟩
  rw [diskOk, this, Bool.and_false]
theorem diskOk_long {l : List Fl} (h : 30 < l.length) : diskOk l = false := by
  have : decide (l.length ≤ 30) = false := by simp; omega
  rw [diskOk, this, Bool.false_and]
theorem diskOk_good {l : List Fl} (hl : l.length ≤ 30) (h : ∀ k, k < l.length → stepF l k = true) : diskOk l = true := by
  have h1 : decide (l.length ≤ 30) = true := by simpa using hl
  have h2 : (List.range l.length).all (stepF l) = true := List.all_eq_true.2 fun k hk => h k (List.mem_range.1 hk)
  rw [diskOk, h1, h2]; rfl
theorem diskOk_iff {l : List Fl} : diskOk l = true ↔ l.length ≤ 30 ∧ ∀ k, k < l.length → stepF l k = true := by
  constructor
  · intro h
    rw [diskOk, Bool.and_eq_true, decide_eq_true_iff, List.all_eq_true] at h
    exact ⟨h.1, fun k hk => h.2 k (List.mem_range.2 hk)⟩
  · rintro ⟨h1, h2⟩; exact diskOk_good h1 h2
theorem stepF_text {l : List Fl} {k : Nat} (h : stepF l k = true) : (flAt l k).2.1.length ≤ 20000 := by
  simp only [stepF, Bool.and_eq_true, decide_eq_true_eq] at h
  have := h.1.1.2
  omega
def fileIx (l : List Fl) (n : Bs) : Option Nat := l.findIdx? fun x => x.1 == n
theorem ix_some {l : List Fl} {n : Bs} {k : Nat} (h : k < l.length) (hx : ∀ j, j < k → (flAt l j).1 ≠ n) (he : (flAt l k).1 = n) : fileIx l n = some k := by
  rw [fileIx, List.findIdx?_eq_some_iff_getElem]
  refine ⟨h, by rw [← fl_at h, he]; simp, fun j hj => ?_⟩
  have := hx j hj
  rw [fl_at (by omega)] at this
  simpa using this
theorem ix_none {l : List Fl} {n : Bs} (hx : ∀ j, j < l.length → (flAt l j).1 ≠ n) : fileIx l n = none := by
  rw [fileIx, List.findIdx?_eq_none_iff]
  intro x hm
  obtain ⟨j, hj, rfl⟩ := List.getElem_of_mem hm
  have := hx j hj
  rw [fl_at hj] at this
  simpa using this
theorem ix_lt {l : List Fl} {n : Bs} {k : Nat} (h : fileIx l n = some k) : k < l.length := by
  rw [fileIx, List.findIdx?_eq_some_iff_getElem] at h
  exact h.1
def ixI : Option Nat → Int
  | some k => (k : Int)
  | none => -1
def fileGet (l : List Fl) (n : Bs) : Option Bs := (fileIx l n).map fun i => (flAt l i).2.1
theorem fileGet_len {l : List Fl} {n t : Bs} (h : diskOk l = true) (hg : fileGet l n = some t) : t.length ≤ 20000 := by
  unfold fileGet at hg
  cases hi : fileIx l n with
  | none => rw [hi] at hg; cases hg
  | some k =>
    rw [hi] at hg
    injection hg with hg
    subst hg
    exact stepF_text ((diskOk_iff.1 h).2 k (ix_lt hi))

/-! ### framed records -/
def frameB (t : Bs) : Bs := varText t.length ++ fourB (sumOf t) ++ t
def unf (f : Bs) : Nat → Nat → List Bs × Nat
  | 0, p => ([], p)
  | k + 1, p => match readVar f p with
    | none => ([], p)
    | some (n, q) => if 1 ≤ n ∧ n ≤ 9000 ∧ n + 4 ≤ f.length - q ∧ (f.drop q).take 4 = fourB (sumOf ((f.drop (q + 4)).take n)) then
        (((f.drop (q + 4)).take n) :: (unf f k (q + 4 + n)).1, (unf f k (q + 4 + n)).2)
      else ([], p)
def unframe (f : Bs) : List Bs × Nat := if 20000 < f.length then ([], 0) else unf f (f.length + 1) 0
def UfAt (R : List Bs × Nat) (f : Bs) (k : Nat) (l : List Bs) (p : Nat) : Prop := R = (l ++ (unf f k p).1, (unf f k p).2)
theorem UfAt.stop {R : List Bs × Nat} {f : Bs} {k : Nat} {l : List Bs} {p : Nat} (h : UfAt R f (k + 1) l p) (hr : readVar f p = none) : R = (l, p) := by
  rw [h, unf, hr]; simp
theorem UfAt.bad {R : List Bs × Nat} {f : Bs} {k : Nat} {l : List Bs} {p n q : Nat} (h : UfAt R f (k + 1) l p) (hr : readVar f p = some (n, q))
    (hn : ¬ (1 ≤ n ∧ n ≤ 9000 ∧ n + 4 ≤ f.length - q ∧ (f.drop q).take 4 = fourB (sumOf ((f.drop (q + 4)).take n)))) : R = (l, p) := by
  rw [h, unf, hr]; simp only; rw [if_neg hn]; simp
theorem UfAt.step {R : List Bs × Nat} {f : Bs} {k : Nat} {l : List Bs} {p n q : Nat} (h : UfAt R f (k + 1) l p) (hr : readVar f p = some (n, q))
    (hn : 1 ≤ n ∧ n ≤ 9000 ∧ n + 4 ≤ f.length - q ∧ (f.drop q).take 4 = fourB (sumOf ((f.drop (q + 4)).take n))) : UfAt R f k (l ++ [(f.drop (q + 4)).take n]) (q + 4 + n) := by
  unfold UfAt at h ⊢
  rw [h, unf, hr]; simp only; rw [if_pos hn]; simp
theorem unf_facts (f : Bs) : ∀ k p, (∀ t ∈ (unf f k p).1, 1 ≤ t.length ∧ t.length ≤ 9000) ∧ (unf f k p).1.length ≤ k
  | 0, p => ⟨fun t h => by simp [unf] at h, by simp [unf]⟩
  | k + 1, p => by
    rw [unf]
    split
    · exact ⟨fun t h => by simp at h, by simp⟩
    · rename_i n q hr
      split
      · rename_i hc
        have ih := unf_facts f k (q + 4 + n)
        refine ⟨fun t h => ?_, by simp; exact ih.2⟩
        simp only [List.mem_cons] at h
        rcases h with rfl | h
        · simp; omega
        · exact ih.1 t h
      · exact ⟨fun t h => by simp at h, by simp⟩
theorem unframe_facts (f : Bs) : (∀ t ∈ (unframe f).1, 1 ≤ t.length ∧ t.length ≤ 9000) ∧ (unframe f).1.length ≤ 20001 := by
  unfold unframe
  split
  · exact ⟨fun t h => by simp at h, by simp⟩
  · have := unf_facts f (f.length + 1) 0
    exact ⟨this.1, by have := this.2; omega⟩
/-- A frame's bytes, as the reference compares them. -/
theorem frame_iff {f : Bs} {p n q : Nat} (hr : readVar f p = some (n, q)) (hn : n + 4 ≤ f.length - q) :
    frameB ((f.drop (q + 4)).take n) = (f.drop p).take (q + 4 + n - p) ↔ (f.drop q).take 4 = fourB (sumOf ((f.drop (q + 4)).take n)) := by
  obtain ⟨he, hq⟩ := readVar_enc hr
  have hl : ((f.drop (q + 4)).take n).length = n := by simp; omega
  have e : (f.drop p).take (q + 4 + n - p) = varText n ++ (f.drop q).take 4 ++ (f.drop (q + 4)).take n := by
    rw [he, hq, show p + (varText n).length + 4 + n - p = (varText n).length + (4 + n) by omega, List.take_length_add_append, List.take_add, List.drop_drop, List.append_assoc]
  rw [e, frameB, hl, List.append_cancel_right_eq, List.append_cancel_left_eq]
  exact eq_comm
def logTexts (l : List Fl) (n : Bs) : List Bs := if diskOk l = true then (unframe ((fileGet l n).getD [])).1 else []
theorem logTexts_facts (l : List Fl) (n : Bs) : (∀ t ∈ logTexts l n, 1 ≤ t.length ∧ t.length ≤ 9000) ∧ (logTexts l n).length ≤ 20001 := by
  unfold logTexts
  split
  · exact unframe_facts _
  · exact ⟨fun t h => by simp at h, by simp⟩

/-! ### a shard -/
def shardB (nm : Bs) (K : Int) : Nat := if 0 ≤ K ∧ K ≤ 2 then ixB nm / 2 ^ (8 - K.toNat) else 0
structure Sv where
  ep : Nat
  vs : List (List Lf)
  tk : List Nat
  al : List Ch
  re : Nat
  rt : Nat
  rk : Nat
def sv0 : Sv := ⟨0, [[]], [0], [], 0, 0, 0⟩
def readyL (s : Sv) : List Lf := (s.al.take s.rk).foldl applyI []
def svCommit (s : Sv) : Sv := ⟨s.ep + 1, s.vs ++ [readyL s], s.tk ++ [s.rk], s.al, 0, 0, 0⟩
def lastT (l : List Nat) : Nat := l.getLastD 0
def idIx (l : List Ch) (id : Int) : Option Nat := l.findIdx? fun x => x.1 == id
inductive Rk where
  | no | all (u : Ch) | rdy (e y k : Nat) | com
def num1 (t : Bs) : Nat × Nat × Bool := numOf t 1 false
def num2 (t : Bs) : Nat × Nat × Bool := numOf t (num1 t).2.1 (num1 t).2.2
def num3 (t : Bs) : Nat × Nat × Bool := numOf t (num2 t).2.1 (num2 t).2.2
def rkOf (a K : Int) (s : Sv) : Bs → Rk
  | [] => .no
  | b :: r =>
    if b.toNat = 1 then match readChangeI r with
      | some (id, n, v) => if (shardB n K : Int) = a ∧ idIx s.al (id : Int) = none then .all ((id : Int), n, v) else .no
      | none => .no
    else if b.toNat = 2 then
      if doneB (num3 (b :: r)).2.2 (num3 (b :: r)).2.1 (r.length + 1) = true ∧ (num1 (b :: r)).1 = s.ep + 1 ∧ (num1 (b :: r)).1 ≤ 4 ∧ s.rt < (num2 (b :: r)).1 ∧ (num2 (b :: r)).1 ≤ 1000 ∧
        lastT s.tk ≤ (num3 (b :: r)).1 ∧ (num3 (b :: r)).1 ≤ s.al.length
      then .rdy (num1 (b :: r)).1 (num2 (b :: r)).1 (num3 (b :: r)).1 else .no
    else if b.toNat = 3 then
      if doneB (num1 (b :: r)).2.2 (num1 (b :: r)).2.1 (r.length + 1) = true ∧ (num1 (b :: r)).1 = s.re ∧ (num1 (b :: r)).1 ≠ 0 then .com else .no
    else if b.toNat = 4 then
      if doneB (num2 (b :: r)).2.2 (num2 (b :: r)).2.1 (r.length + 1) = true ∧ (num1 (b :: r)).1 = s.re ∧ (num2 (b :: r)).1 = s.rt ∧ (num1 (b :: r)).1 ≠ 0 then .rdy 0 0 0 else .no
    else .no
def rkDo (s : Sv) : Rk → Sv
  | .no => s
  | .all u => { s with al := s.al ++ [u] }
  | .rdy e y k => { s with re := e, rt := y, rk := k }
  | .com => svCommit s
def svRec (a K : Int) (s : Sv) (t : Bs) : Sv := rkDo s (rkOf a K s t)
def svOf (a K : Int) (ts : List Bs) : Sv := ts.foldl (svRec a K) sv0
/-- What holds of a shard that has heard n records. -/
structure SvOk (n : Nat) (s : Sv) : Prop where
  ep : s.ep ≤ 4
  vl : s.vs.length = s.ep + 1
  tl : s.tk.length = s.ep + 1
  al : s.al.length ≤ n
  tb : ∀ x ∈ s.tk, x ≤ s.al.length
  ch : ∀ u ∈ s.al, changeOk u.1 u.2.1 u.2.2 = true
  re : s.re = 0 ∨ s.re = s.ep + 1
  r4 : s.re ≤ 4
  rt : s.rt ≤ 1000
  rk : s.rk ≤ s.al.length
  vo : ∀ v ∈ s.vs, leavesOk v = true
theorem sv0_ok : SvOk 0 sv0 := ⟨by decide, rfl, rfl, Nat.le_refl _, by simp [sv0], by simp [sv0], .inl rfl, by decide, by decide, by decide, by simp [sv0, leavesOk]⟩
theorem readyL_ok (s : Sv) : leavesOk (readyL s) = true := fold_ok (by simp [leavesOk])
theorem svRec_ok {a K : Int} {n : Nat} {s : Sv} {t : Bs} (h : SvOk n s) : SvOk (n + 1) (svRec a K s t) := by
  have weak : SvOk (n + 1) s := { h with al := by have := h.al; omega }
  unfold svRec
  cases t with
  | nil => exact weak
  | cons b r =>
    rw [rkOf]
    split
    · split
      · rename_i id nm v hr
        split
        · rename_i hc
          refine { h with al := by simp [rkDo]; exact h.al, tb := fun x hx => ?_, ch := fun u hu => ?_, rk := ?_ }
          · have := h.tb x hx; simp [rkDo]; omega
          · simp only [rkDo, List.mem_append, List.mem_singleton] at hu
            rcases hu with hu | rfl
            · exact h.ch u hu
            · exact readChangeI_ok hr
          · have := h.rk; simp [rkDo]; omega
        · exact weak
      · exact weak
    · split
      · split
        · rename_i hc
          obtain ⟨-, h1, h2, h3, h4, h5, h6⟩ := hc
          exact { weak with re := .inr h1, r4 := h2, rt := h4, rk := h6 }
        · exact weak
      · split
        · split
          · rename_i hc
            obtain ⟨-, h1, h2⟩ := hc
            have hre : s.re = s.ep + 1 := by rcases h.re with e | e <;> omega
            have h4 := h.r4
            refine ⟨by simp [rkDo, svCommit]; omega, by simp [rkDo, svCommit, h.vl], by simp [rkDo, svCommit, h.tl], weak.al, fun x hx => ?_, h.ch, .inl rfl, by simp [rkDo, svCommit], by simp [rkDo, svCommit], by simp [rkDo, svCommit], fun v hv => ?_⟩
            · simp only [rkDo, svCommit, List.mem_append, List.mem_singleton] at hx ⊢
              rcases hx with hx | rfl
              · exact h.tb x hx
              · exact h.rk
            · simp only [rkDo, svCommit, List.mem_append, List.mem_singleton] at hv
              rcases hv with hv | rfl
              · exact h.vo v hv
              · exact readyL_ok s
          · exact weak
        · split
          · split
            · exact { weak with re := .inl rfl, r4 := by simp [rkDo], rt := by simp [rkDo], rk := by simp [rkDo] }
            · exact weak
          · exact weak
theorem svFold_ok (a K : Int) : ∀ (ts : List Bs) (s : Sv) (n : Nat), SvOk n s → SvOk (n + ts.length) (ts.foldl (svRec a K) s)
  | [], s, n, h => h
  | t :: ts, s, n, h => by
    have := svFold_ok a K ts _ _ (svRec_ok (a := a) (K := K) (t := t) h)
    rw [List.length_cons, show n + (ts.length + 1) = n + 1 + ts.length by omega]
    exact this
theorem svOf_ok (a K : Int) (ts : List Bs) : SvOk ts.length (svOf a K ts) := by
  have := svFold_ok a K ts sv0 0 sv0_ok
  rwa [Nat.zero_add] at this
theorem sv_next (a K : Int) {ts : List Bs} {k : Nat} (h : k < ts.length) : svOf a K (ts.take (k + 1)) = svRec a K (svOf a K (ts.take k)) ts[k] := by
  unfold svOf
  rw [List.take_succ_eq_append_getElem h, List.foldl_append]; rfl
end Go.Proofs.YtmmnkndmlkhmhaaGreatDoor
