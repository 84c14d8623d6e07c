/- Plain: the checksum. Plain: what is read is what was written, and the other way round. Plain: letters. Plain: entries. Entries, no program in sight: both readers agree. Plain: an entry is looked up, put, dropped. Plain: what holds of an entry that is put, and of one that is dropped; entries are read as they were written. Plain: proofs are read as they were written, by the program and by the reference alike. -/
import Derived.Test.YtigfpjnjjndenaaGreatDoorPlain
import Derived.Laws.BitsAllLaws
namespace Go.Proofs.YtigfpjnjjndenaaGreatDoor.Pl
end Go.Proofs.YtigfpjnjjndenaaGreatDoor.Pl
namespace Go.Proofs.YtigfpjnjjndenaaGreatDoor.Pl

theorem rvGo_val : ∀ (f k n : Nat) (r : Bs) (m c : Nat), rvGo f k n r = some (m, c) →
    ∃ (ds : Bs) (x : UInt8) (r' : Bs), r = ds ++ x :: r' ∧ (∀ d ∈ ds, 128 ≤ d.toNat) ∧ x.toNat < 128 ∧ c = k + ds.length + 1 ∧ m = n + val (ds ++ [x]) * 128 ^ k ∧ (x.toNat ≠ 0 ∨ (ds = [] ∧ k = 0))
  | 0, _, _, _, _, _, h => by cases h
  | _ + 1, _, _, [], _, _, h => by cases h
  | f + 1, k, n, x :: r, m, c, h => by
    rw [rvGo] at h
    split at h
    · rename_i hx
      split at h
      · cases h
      · rename_i hb
        injection h with h; injection h with h1 h2
        refine ⟨[], x, r, rfl, by simp, hx, by simp; omega, ?_, ?_⟩
        · have : val ([] ++ [x]) = x.toNat := by simp [val]; omega
          rw [this, pow_128, h1]
        · by_cases h0 : x.toNat = 0
          · right; refine ⟨rfl, ?_⟩; omega
          · exact .inl h0
    · rename_i hx
      obtain ⟨ds, y, r', e, hd, hy, hc, hm, hz⟩ := rvGo_val f (k + 1) _ r m c h
      refine ⟨x :: ds, y, r', by rw [e]; rfl, ?_, hy, by rw [List.length_cons]; omega, ?_, ?_⟩
      · intro d hd'
        rcases List.mem_cons.1 hd' with rfl | hd'
        · omega
        · exact hd d hd'
      · rw [hm, List.cons_append, val, ← pow_128, Nat.pow_succ]
        have e1 : val (ds ++ [y]) * (128 ^ k * 128) = 128 * val (ds ++ [y]) * 128 ^ k := by rw [Nat.mul_comm (128 ^ k) 128, ← Nat.mul_assoc, Nat.mul_comm (val _) 128]
        rw [e1, Nat.add_mul, Nat.add_assoc]
      · rcases hz with hz | ⟨_, hz⟩
        · exact .inl hz
        · omega

/-- What ReadVar reads is what VarText writes. -/
theorem readVar_enc {t : Bs} {p n q : Nat} (h : readVar t p = some (n, q)) : t.drop p = varText n ++ t.drop q ∧ q = p + (varText n).length := by
  have hb := readVar_bounds h
  unfold readVar at h
  rcases hg : rvGo 5 0 0 (t.drop p) with _ | ⟨m, c⟩
  · rw [hg] at h; cases h
  · rw [hg] at h
    simp at h
    obtain ⟨rfl, rfl⟩ := h
    obtain ⟨ds, x, r', e, hd, hx, hc, hm, hz⟩ := rvGo_val _ _ _ _ _ _ hg
    simp at hm hc
    have hv : varText m = ds ++ [x] := by
      rw [hm]
      refine (varText_val x hx ds hd).2 ?_
      rcases hz with hz | ⟨hz, _⟩
      · exact .inl hz
      · exact .inr hz
    have hl : (varText m).length = c := by rw [hv]; simp; omega
    refine ⟨?_, by rw [hl]⟩
    rw [← List.drop_drop, e, hv]
    have : (ds ++ x :: r').drop c = r' := by
      rw [hc]
      have e2 : ds ++ x :: r' = (ds ++ [x]) ++ r' := by simp
      rw [e2]
      have : ds.length + 1 = (ds ++ [x]).length := by simp
      rw [this, List.drop_left]
    rw [this]; simp

theorem varText_shape : ∀ (n : Nat), ∃ (ds : Bs) (x : UInt8), varText n = ds ++ [x] ∧ (∀ d ∈ ds, 128 ≤ d.toNat) ∧ x.toNat < 128 ∧ (x.toNat ≠ 0 ∨ ds = []) ∧ val (ds ++ [x]) = n := by
  intro n
  induction n using Nat.strongRecOn with
  | ind n ih =>
    by_cases hn : n ≤ 127
    · refine ⟨[], UInt8.ofNat n, varText_small hn, by simp, ?_, .inr rfl, ?_⟩
      · simp; omega
      · simp [val]; omega
    · obtain ⟨ds, x, e, hd, hx, hz, hv⟩ := ih (n / 128) (by omega)
      have ht : (UInt8.ofNat (128 + n % 128)).toNat = 128 + n % 128 := by simp; omega
      refine ⟨UInt8.ofNat (128 + n % 128) :: ds, x, by rw [varText_big hn, e]; rfl, ?_, hx, ?_, ?_⟩
      · intro d hd'
        rcases List.mem_cons.1 hd' with rfl | hd'
        · omega
        · exact hd d hd'
      · rcases hz with hz | hz
        · exact .inl hz
        · subst hz
          left
          intro h0
          simp [val, h0] at hv
          omega
      · rw [List.cons_append, val, hv, ht]; omega

theorem rvGo_dec : ∀ (ds : Bs) (x : UInt8) (r : Bs) (f k n : Nat), (∀ d ∈ ds, 128 ≤ d.toNat) → x.toNat < 128 → (x.toNat ≠ 0 ∨ (ds = [] ∧ k = 0)) → ds.length < f → n + val (ds ++ [x]) * 128 ^ k ≤ 1000000000 →
    rvGo f k n (ds ++ x :: r) = some (n + val (ds ++ [x]) * 128 ^ k, k + ds.length + 1)
  | [], x, r, f + 1, k, n, _, hx, hz, _, hm => by
    have hv : val ([] ++ [x]) = x.toNat := by simp [val]; omega
    rw [hv, pow_128] at hm ⊢
    exact rvGo_last f k n x r hx (by rcases hz with h | ⟨_, h⟩ <;> omega) hm
  | d :: ds, x, r, f + 1, k, n, hd, hx, hz, hf, hm => by
    have hd1 : 128 ≤ d.toNat := hd d (by simp)
    have hz1 : x.toNat ≠ 0 := by
      rcases hz with h | ⟨h, _⟩
      · exact h
      · cases h
    have e : n + d.toNat % 128 * 2 ^ (7 * k) + val (ds ++ [x]) * 128 ^ (k + 1) = n + val (d :: ds ++ [x]) * 128 ^ k := by
      rw [List.cons_append, val, ← pow_128, Nat.pow_succ]
      have e1 : val (ds ++ [x]) * (128 ^ k * 128) = 128 * val (ds ++ [x]) * 128 ^ k := by rw [Nat.mul_comm (128 ^ k) 128, ← Nat.mul_assoc, Nat.mul_comm (val _) 128]
      rw [e1, Nat.add_mul, Nat.add_assoc]
    rw [List.cons_append, rvGo_more _ _ _ _ _ (by omega), rvGo_dec ds x r f (k + 1) _ (fun y hy => hd y (by simp [hy])) hx (.inl hz1) (by simpa using hf) (by rw [e]; exact hm), e]
    simp; omega

/-- What VarText writes is read. -/
theorem readVar_dec {t : Bs} {p n : Nat} {r : Bs} (hn : n ≤ 1000000000) (h : t.drop p = varText n ++ r) : readVar t p = some (n, p + (varText n).length) := by
  obtain ⟨ds, x, e, hd, hx, hz, hv⟩ := varText_shape n
  have hl := varText_len (n := n) (by omega)
  rw [e] at hl
  simp at hl
  have hg := rvGo_dec ds x r 5 0 0 hd hx (by rcases hz with h | h <;> simp [h]) (by omega) (by rw [hv]; omega)
  rw [readVar, h, e, List.append_assoc]
  show (rvGo 5 0 0 (ds ++ x :: r)).map _ = _
  rw [hg, hv]
  simp

/-- What ReadShort reads is what ShortText writes. -/
theorem readShort_enc {t : Bs} {p q : Nat} {l : Bs} (h : readShort t p = some (l, q)) : t.drop p = shortText l ++ t.drop q ∧ q = p + (shortText l).length := by
  unfold readShort at h
  rcases hr : readVar t p with _ | ⟨n, c⟩
  · rw [hr] at h; cases h
  · have hb := readVar_bounds hr
    obtain ⟨e1, e2⟩ := readVar_enc hr
    rw [hr] at h
    simp only at h
    split at h
    · rename_i hc
      injection h with h; injection h with h1 h2; subst h1; subst h2
      have hl : ((t.drop c).take n).length = n := by simp; omega
      refine ⟨?_, by rw [shortText, List.length_append, hl]; omega⟩
      rw [shortText, hl, e1, List.append_assoc, ← List.drop_drop, List.take_append_drop]
    · cases h
theorem readShort_dec {t : Bs} {p : Nat} {l r : Bs} (hl : l.length ≤ 20000) (h : t.drop p = shortText l ++ r) : readShort t p = some (l, p + (shortText l).length) := by
  have hr : readVar t p = some (l.length, p + (varText l.length).length) := readVar_dec (r := l ++ r) (by omega) (by rw [h, shortText, List.append_assoc])
  have hd : t.drop (p + (varText l.length).length) = l ++ r := by rw [← List.drop_drop, h, shortText, List.append_assoc, List.drop_left]
  have hlen := congrArg List.length hd
  simp at hlen
  rw [readShort, hr]
  simp only
  rw [if_pos ⟨hl, by omega⟩, hd, List.take_left, shortText, List.length_append]
  simp; omega

/-! ### readers that go on, and readers that stop at the first fault -/
theorem numOf_enc {t : Bs} {p n q : Nat} {b : Bool} (h : numOf t p b = (n, q, false)) : b = false ∧ n ≤ 1000000000 ∧ t.drop p = varText n ++ t.drop q ∧ q = p + (varText n).length := by
  unfold numOf at h
  rcases hr : readVar t p with _ | ⟨m, c⟩
  · rw [hr] at h; simp at h
  · rw [hr] at h
    simp at h
    obtain ⟨rfl, rfl, rfl⟩ := h
    exact ⟨rfl, (readVar_bounds hr).2.2.2, readVar_enc hr⟩
theorem shortOf_enc {t : Bs} {p q : Nat} {l : Bs} {b : Bool} (h : shortOf t p b = (l, q, false)) : b = false ∧ l.length ≤ 20000 ∧ t.drop p = shortText l ++ t.drop q ∧ q = p + (shortText l).length := by
  unfold shortOf at h
  rcases hr : readShort t p with _ | ⟨m, c⟩
  · rw [hr] at h; simp at h
  · rw [hr] at h
    simp at h
    obtain ⟨rfl, rfl, rfl⟩ := h
    exact ⟨rfl, (readShort_bounds hr).2.2, readShort_enc hr⟩
theorem numOf_dec {t : Bs} {p n : Nat} {r : Bs} (hn : n ≤ 1000000000) (h : t.drop p = varText n ++ r) (b : Bool) : numOf t p b = (n, p + (varText n).length, b) := by
  rw [numOf, readVar_dec hn h]
theorem shortOf_dec {t : Bs} {p : Nat} {l r : Bs} (hl : l.length ≤ 20000) (h : t.drop p = shortText l ++ r) (b : Bool) : shortOf t p b = (l, p + (shortText l).length, b) := by
  rw [shortOf, readShort_dec hl h]
end Go.Proofs.YtigfpjnjjndenaaGreatDoor.Pl
namespace Go.Proofs.YtigfpjnjjndenaaGreatDoor.Pl
/-- Does a number lie between two? -/
def inB (n lo hi : Int) : Bool := decide (lo ≤ n) && decide (n ≤ hi)
theorem inB_iff {n lo hi : Int} : inB n lo hi = true ↔ lo ≤ n ∧ n ≤ hi := by simp [inB]
abbrev Lt := Nat × Nat × Nat × Nat × Nat × Bs
end Go.Proofs.YtigfpjnjjndenaaGreatDoor.Pl
namespace Go.Proofs.YtigfpjnjjndenaaGreatDoor.Pl
abbrev Lf := Bs × Bs
def ltB (a b : Bs) : Bool := Op.bytesLess a b
def lfAt (l : List Lf) (i : Nat) : Lf := l.getD i ([], [])
def stepOk (l : List Lf) (i : Nat) : Bool := nameOk (lfAt l i).1 && valueOk (lfAt l i).2 && (i == 0 || ltB (lfAt l (i - 1)).1 (lfAt l i).1)
def leavesOk (l : List Lf) : Bool := decide (l.length ≤ 24) && (List.range l.length).all (stepOk l)
theorem leavesOk_bad {l : List Lf} {k : Nat} (hk : k < l.length) (h : stepOk l k = false) : leavesOk l = false := by
  have : (List.range l.length).all (stepOk l) = false := by
    rw [List.all_eq_false]
    exact ⟨k, List.mem_range.2 hk, by simp [h]⟩
  rw [leavesOk, this, Bool.and_false]
theorem leavesOk_long {l : List Lf} (h : 24 < l.length) : leavesOk l = false := by
  have : decide (l.length ≤ 24) = false := by simp; omega
  rw [leavesOk, this, Bool.false_and]
theorem leavesOk_good {l : List Lf} (hl : l.length ≤ 24) (h : ∀ k, k < l.length → stepOk l k = true) : leavesOk l = true := by
  have h1 : decide (l.length ≤ 24) = true := by simpa using hl
  have h2 : (List.range l.length).all (stepOk l) = true := List.all_eq_true.2 fun k hk => h k (List.mem_range.1 hk)
  rw [leavesOk, h1, h2]; rfl
theorem leavesOk_iff {l : List Lf} : leavesOk l = true ↔ l.length ≤ 24 ∧ ∀ k, k < l.length → stepOk l k = true := by
  constructor
  · intro h
    rw [leavesOk, Bool.and_eq_true, decide_eq_true_iff, List.all_eq_true] at h
    exact ⟨h.1, fun k hk => h.2 k (List.mem_range.2 hk)⟩
  · rintro ⟨h1, h2⟩; exact leavesOk_good h1 h2
/-- The bytes of entries. -/
def lfText (x : Lf) : Bs := shortText x.1 ++ shortText x.2
def leavesText (l : List Lf) : Bs := varText l.length ++ l.flatMap lfText

/-! ### marks -/
/-! ### reading entries -/
abbrev Sh := Nat → Bool → Bs × Nat × Bool
def lvLoop (sh : Sh) : Nat → Nat → Bool → List Lf × Nat × Bool
  | 0, p, b => ([], p, b)
  | _ + 1, p, true => ([], p, true)
  | n + 1, p, false => (((sh p false).1, (sh (sh p false).2.1 (sh p false).2.2).1) :: (lvLoop sh n (sh (sh p false).2.1 (sh p false).2.2).2.1 (sh (sh p false).2.1 (sh p false).2.2).2.2).1,
      (lvLoop sh n (sh (sh p false).2.1 (sh p false).2.2).2.1 (sh (sh p false).2.1 (sh p false).2.2).2.2).2)
/-- What is read is l and then what the loop reads from here on. -/
def LvAt (sh : Sh) (R : List Lf × Nat × Bool) (n : Nat) (l : List Lf) (q : Nat) (b : Bool) : Prop := R = (l ++ (lvLoop sh n q b).1, (lvLoop sh n q b).2)
theorem LvAt.start (sh : Sh) (n q : Nat) (b : Bool) : LvAt sh (lvLoop sh n q b) n [] q b := rfl
theorem LvAt.step {sh : Sh} {R : List Lf × Nat × Bool} {n q q1 q2 : Nat} {l : List Lf} {a v : Bs} {b1 b2 : Bool} (h : LvAt sh R (n + 1) l q false) (h1 : sh q false = (a, q1, b1)) (h2 : sh q1 b1 = (v, q2, b2)) : LvAt sh R n (l ++ [(a, v)]) q2 b2 := by
  unfold LvAt at h ⊢
  rw [h, lvLoop, h1]
  simp only [h2]
  simp
theorem LvAt.done {sh : Sh} {R : List Lf × Nat × Bool} {q : Nat} {l : List Lf} {b : Bool} (h : LvAt sh R 0 l q b) : R = (l, q, b) := by
  unfold LvAt at h; rw [h, lvLoop]; simp
theorem LvAt.bad {sh : Sh} {R : List Lf × Nat × Bool} {n q : Nat} {l : List Lf} (h : LvAt sh R n l q true) : R = (l, q, true) := by
  unfold LvAt at h; rw [h]
  cases n <;> simp [lvLoop]
/-- What the program's reader reads for entries. -/
def leavesI (t : Bs) (p : Nat) (bad : Bool) : List Lf × Nat × Bool :=
  let r := lvLoop (shortOf t) (numOf t p bad).1 (numOf t p bad).2.1 (if 24 < (numOf t p bad).1 then true else (numOf t p bad).2.2)
  (r.1, r.2.1, r.2.2 || !leavesOk r.1)
end Go.Proofs.YtigfpjnjjndenaaGreatDoor.Pl
namespace Go.Proofs.YtigfpjnjjndenaaGreatDoor.Pl
set_option linter.unusedVariables false
set_option linter.unusedSimpArgs false

theorem lvLoop_bad (sh : Sh) (n q : Nat) : lvLoop sh n q true = ([], q, true) := by cases n <;> rfl
theorem lvLoop_step {sh : Sh} {n q q1 q2 : Nat} {a v : Bs} {b1 b2 : Bool} (h1 : sh q false = (a, q1, b1)) (h2 : sh q1 b1 = (v, q2, b2)) :
    lvLoop sh (n + 1) q false = ((a, v) :: (lvLoop sh n q2 b2).1, (lvLoop sh n q2 b2).2) := by
  rw [lvLoop, h1]; simp only [h2]
theorem lvLoop_enc {t : Bs} : ∀ {n q q2 : Nat} {l : List Lf}, lvLoop (shortOf t) n q false = (l, q2, false) → q ≤ t.length →
    l.length = n ∧ q2 ≤ t.length ∧ t.drop q = l.flatMap lfText ++ t.drop q2
  | 0, q, q2, l, h, hq => by
    simp only [lvLoop] at h
    cases h
    exact ⟨rfl, hq, by simp⟩
  | n + 1, q, q2, l, h, hq => by
    rcases h1 : shortOf t q false with ⟨a, q1, b1⟩
    rcases h2 : shortOf t q1 b1 with ⟨v, q3, b2⟩
    rw [lvLoop_step h1 h2] at h
    cases b2
    · obtain ⟨hb, _, d2, _⟩ := shortOf_enc h2
      subst hb
      obtain ⟨_, _, d1, _⟩ := shortOf_enc h1
      have l1 := (shortOf_le (bad := false) hq).1
      rw [h1] at l1
      have l2 := (shortOf_le (bad := false) (p := q1) l1).1
      rw [h2] at l2
      rcases hr : lvLoop (shortOf t) n q3 false with ⟨l', q4, b4⟩
      rw [hr] at h
      simp only at h
      cases h
      obtain ⟨e1, e2, e3⟩ := lvLoop_enc hr l2
      refine ⟨by simp [e1], e2, ?_⟩
      rw [List.flatMap_cons, lfText, d1, d2, e3]
      simp
    · rw [lvLoop_bad] at h
      simp at h
theorem lvLoop_le {sh : Sh} {t : Bs} (hs : ∀ p b, p ≤ t.length → (sh p b).2.1 ≤ t.length) : ∀ (n q : Nat) (b : Bool), q ≤ t.length → (lvLoop sh n q b).2.1 ≤ t.length
  | 0, q, b, h => h
  | n + 1, q, true, h => h
  | n + 1, q, false, h => lvLoop_le hs n _ _ (hs _ _ (hs _ _ h))
theorem leavesI_le {t : Bs} {p : Nat} {b : Bool} (h : p ≤ t.length) : (leavesI t p b).2.1 ≤ t.length := by
  simp only [leavesI]
  exact lvLoop_le (fun p b hp => (shortOf_le hp).1) _ _ _ (numOf_le h).1
end Go.Proofs.YtigfpjnjjndenaaGreatDoor.Pl
namespace Go.Proofs.YtigfpjnjjndenaaGreatDoor.Pl
set_option linter.unusedVariables false
set_option linter.unusedSimpArgs false
def leafGet (l : List Lf) (n : Bs) : Option Bs := (l.find? fun x => x.1 == n).map (·.2)
def without (l : List Lf) (n : Bs) : List Lf := l.filter fun x => x.1 != n
theorem lf_at {l : List Lf} {k : Nat} (h : k < l.length) : lfAt l k = l[k] := by simp [lfAt, List.getD, List.getElem?_eq_getElem h]
theorem take_next (l : List Lf) (k : Nat) (h : k < l.length) : l.take (k + 1) = l.take k ++ [lfAt l k] := by
  rw [List.take_add_one, List.getElem?_eq_getElem h, lf_at h]; rfl
theorem get_next {l : List Lf} {k : Nat} {n : Bs} (h : k < l.length) (hx : leafGet (l.take k) n = none) (hne : (lfAt l k).1 ≠ n) : leafGet (l.take (k + 1)) n = none := by
  rw [take_next l k h]
  simp only [leafGet, Option.map_eq_none_iff] at hx ⊢
  rw [List.find?_append, hx]
  simp [hne]
theorem get_here {l : List Lf} {k : Nat} {n : Bs} (h : k < l.length) (hx : leafGet (l.take k) n = none) (he : (lfAt l k).1 = n) : leafGet l n = some (lfAt l k).2 := by
  have e : leafGet l n = leafGet (l.take (k + 1) ++ l.drop (k + 1)) n := by rw [List.take_append_drop]
  rw [e, take_next l k h]
  simp only [leafGet, Option.map_eq_none_iff] at hx ⊢
  rw [List.find?_append, List.find?_append, hx]
  simp [he]
theorem filter_next {f : Lf → Bool} {l : List Lf} {k : Nat} (h : k < l.length) : (l.take (k + 1)).filter f = (l.take k).filter f ++ (if f (lfAt l k) = true then [lfAt l k] else []) := by
  rw [take_next l k h, List.filter_append]
  congr 1
  cases hf : f (lfAt l k) <;> simp [hf]
theorem without_next {l : List Lf} {k : Nat} {n : Bs} (h : k < l.length) : without (l.take (k + 1)) n = without (l.take k) n ++ (if (lfAt l k).1 = n then [] else [lfAt l k]) := by
  unfold without
  rw [filter_next h]
  by_cases he : (lfAt l k).1 = n <;> simp [he]
def lowL (l : List Lf) (n : Bs) : List Lf := l.filter fun x => ltB x.1 n
def highL (l : List Lf) (n : Bs) : List Lf := l.filter fun x => !(ltB x.1 n || decide (x.1 = n))
def putL (l : List Lf) (n v : Bs) : List Lf := lowL (without l n) n ++ [(n, v)] ++ highL (without l n) n
/-- What the reference's LeafPut answers. -/
def putR (l : List Lf) (n v : Bs) : List Lf × Bool := bif leavesOk l && leavesOk (putL l n v) then (putL l n v, true) else (l, false)
theorem lowL_next {l : List Lf} {k : Nat} {n : Bs} (h : k < l.length) : lowL (l.take (k + 1)) n = lowL (l.take k) n ++ (if ltB (lfAt l k).1 n = true then [lfAt l k] else []) := filter_next h
theorem highL_next {l : List Lf} {k : Nat} {n : Bs} (h : k < l.length) : highL (l.take (k + 1)) n = highL (l.take k) n ++ (if (!(ltB (lfAt l k).1 n || decide ((lfAt l k).1 = n))) = true then [lfAt l k] else []) := filter_next h
end Go.Proofs.YtigfpjnjjndenaaGreatDoor.Pl
namespace Go.Proofs.YtigfpjnjjndenaaGreatDoor.Pl
set_option linter.unusedVariables false
set_option linter.unusedSimpArgs false
theorem lt_nil (a : Bs) : ltB a [] = false := by cases a <;> rfl
theorem lt_cons (a b : UInt8) (x y : Bs) : ltB (a :: x) (b :: y) = (decide (a < b) || (a == b && ltB x y)) := rfl
theorem lt_irrefl : ∀ a : Bs, ltB a a = false
  | [] => rfl
  | a :: x => by rw [lt_cons, lt_irrefl x]; simp
theorem lt_trans : ∀ {a b c : Bs}, ltB a b = true → ltB b c = true → ltB a c = true
  | _, [], _, h, _ => by rw [lt_nil] at h; cases h
  | _, _, [], _, h => by rw [lt_nil] at h; cases h
  | [], _ :: _, _ :: _, _, _ => rfl
  | a :: x, b :: y, c :: z, h, k => by
    rw [lt_cons] at h k ⊢
    simp only [Bool.or_eq_true, decide_eq_true_eq, Bool.and_eq_true, beq_iff_eq] at h k ⊢
    rcases h with h | ⟨rfl, h⟩
    · rcases k with k | ⟨rfl, k⟩
      · exact .inl (UInt8.lt_trans h k)
      · exact .inl h
    · rcases k with k | ⟨rfl, k⟩
      · exact .inl k
      · exact .inr ⟨rfl, lt_trans h k⟩
def Sorted (l : List Lf) : Prop := l.Pairwise fun a b => ltB a.1 b.1 = true
theorem ok_sorted {l : List Lf} (h : leavesOk l = true) : l.length ≤ 24 ∧ (∀ x ∈ l, nameOk x.1 = true ∧ valueOk x.2 = true) ∧ Sorted l := by
  obtain ⟨h1, h2⟩ := leavesOk_iff.1 h
  have st : ∀ k (hk : k < l.length), nameOk l[k].1 = true ∧ valueOk l[k].2 = true ∧ (k = 0 ∨ ltB (lfAt l (k - 1)).1 l[k].1 = true) := fun k hk => by
    have := h2 k hk
    rw [stepOk, lf_at hk] at this
    simpa [and_assoc] using this
  refine ⟨h1, fun x hx => ?_, ?_⟩
  · obtain ⟨k, hk, rfl⟩ := List.getElem_of_mem hx
    exact ⟨(st k hk).1, (st k hk).2.1⟩
  · rw [Sorted, List.pairwise_iff_getElem]
    intro i j hi hj hij
    have key : ∀ d, (h : i + d + 1 < l.length) → ltB l[i].1 l[i + d + 1].1 = true := by
      intro d
      induction d with
      | zero =>
        intro h
        have := ((st (i + 1) h).2.2).resolve_left (by omega)
        rwa [Nat.add_sub_cancel, lf_at hi] at this
      | succ d ih =>
        intro h
        have a := ih (by omega)
        have b := ((st (i + (d + 1) + 1) h).2.2).resolve_left (by omega)
        rw [Nat.add_sub_cancel, lf_at (show i + (d + 1) < l.length by omega)] at b
        exact lt_trans a b
    have := key (j - i - 1) (by omega)
    simpa [show i + (j - i - 1) + 1 = j by omega] using this
theorem sorted_ok {l : List Lf} (h1 : l.length ≤ 24) (h2 : ∀ x ∈ l, nameOk x.1 = true ∧ valueOk x.2 = true) (h3 : Sorted l) : leavesOk l = true := by
  refine leavesOk_iff.2 ⟨h1, fun k hk => ?_⟩
  rw [stepOk, lf_at hk, (h2 _ (List.getElem_mem hk)).1, (h2 _ (List.getElem_mem hk)).2]
  cases k with
  | zero => rfl
  | succ k =>
    rw [Nat.add_sub_cancel, lf_at (show k < l.length by omega)]
    have := (List.pairwise_iff_getElem.1 h3) k (k + 1) (by omega) hk (by omega)
    rw [this]; rfl
theorem Sorted.filter {l : List Lf} (h : Sorted l) (f : Lf → Bool) : Sorted (l.filter f) := List.Pairwise.filter _ h
/-- Entries are read as they were written. -/
theorem lvLoop_dec {t : Bs} : ∀ {l : List Lf} {p : Nat} {r : Bs}, (∀ x ∈ l, x.1.length ≤ 20000 ∧ x.2.length ≤ 20000) → t.drop p = l.flatMap lfText ++ r → lvLoop (shortOf t) l.length p false = (l, p + (l.flatMap lfText).length, false)
  | [], p, r, _, _ => by simp [lvLoop]
  | x :: l, p, r, hs, h => by
    have h0 : t.drop p = shortText x.1 ++ (shortText x.2 ++ (l.flatMap lfText ++ r)) := by rw [h]; simp [lfText]
    have hx := hs x (by simp)
    have e1 := shortOf_dec hx.1 h0 false
    have hd1 : t.drop (p + (shortText x.1).length) = shortText x.2 ++ (l.flatMap lfText ++ r) := by
      rw [← List.drop_drop, h0, List.drop_left]
    have e2 := shortOf_dec hx.2 hd1 false
    have hd2 : t.drop (p + (shortText x.1).length + (shortText x.2).length) = l.flatMap lfText ++ r := by
      rw [← List.drop_drop, hd1, List.drop_left]
    have ih := lvLoop_dec (fun y hy => hs y (by simp [hy])) hd2
    rw [List.length_cons, lvLoop, e1]
    simp only [e2, ih]
    simp [lfText]
    omega
theorem nameOk_len {s : Bs} (h : nameOk s = true) : s.length ≤ 12 := by
  simp [nameOk, allN] at h; exact h.1.2
theorem valueOk_len {s : Bs} (h : valueOk s = true) : s.length ≤ 12 := by
  simp [valueOk, allN] at h; exact h.1.2
end Go.Proofs.YtigfpjnjjndenaaGreatDoor.Pl
namespace Go.Proofs.YtigfpjnjjndenaaGreatDoor.Pl
set_option linter.unusedVariables false
set_option linter.unusedSimpArgs false
/-! ### entries from any place on -/
theorem leavesI_enc {t : Bs} {p q : Nat} {b : Bool} {l : List Lf} (h : leavesI t p b = (l, q, false)) (hp : p ≤ t.length) : b = false ∧ leavesOk l = true ∧ q ≤ t.length ∧ t.drop p = leavesText l ++ t.drop q := by
  unfold leavesI at h
  rcases hN : numOf t p b with ⟨n, p1, b1⟩
  have hle := (numOf_le (t := t) (p := p) (bad := b) hp).1
  rw [hN] at h hle
  simp only at h hle
  rcases hL : lvLoop (shortOf t) n p1 (if 24 < n then true else b1) with ⟨l', q', b'⟩
  rw [hL] at h
  simp only [Prod.mk.injEq, Bool.or_eq_false_iff] at h
  obtain ⟨rfl, rfl, rfl, ho⟩ := h
  have ho : leavesOk l' = true := by simpa using ho
  by_cases h24 : 24 < n
  · rw [if_pos h24, lvLoop_bad] at hL; cases hL
  · rw [if_neg h24] at hL
    cases b1 with
    | true => rw [lvLoop_bad] at hL; cases hL
    | false =>
      obtain ⟨rfl, _, e1, _⟩ := numOf_enc hN
      obtain ⟨e2, e3, e4⟩ := lvLoop_enc hL hle
      exact ⟨rfl, ho, e3, by rw [e1, e4, leavesText, e2, List.append_assoc]⟩
theorem leavesI_dec {t : Bs} {p : Nat} {l : List Lf} {r : Bs} (ho : leavesOk l = true) (h : t.drop p = leavesText l ++ r) : leavesI t p false = (l, p + (leavesText l).length, false) := by
  obtain ⟨h1, h2, _⟩ := ok_sorted ho
  have h0 : t.drop p = varText l.length ++ (l.flatMap lfText ++ r) := by rw [h, leavesText, List.append_assoc]
  have hN := numOf_dec (by omega) h0 false
  have hd : t.drop (p + (varText l.length).length) = l.flatMap lfText ++ r := by rw [← List.drop_drop, h0, List.drop_left]
  have hL := lvLoop_dec (fun x hx => by have := nameOk_len (h2 x hx).1; have := valueOk_len (h2 x hx).2; omega) hd
  have hno : ¬ 24 < l.length := by omega
  simp only [leavesI, hN, if_neg hno, hL, ho]
  simp [leavesText, Nat.add_assoc]
/-! ### hashes -/
def hashL (t : Bs) (w : Nat) : Nat → Nat → Bool → List Bs × Nat × Bool
  | 0, p, b => ([], p, b)
  | n + 1, p, b => ((bytesOf t p b w).1 :: (hashL t w n (bytesOf t p b w).2.1 (bytesOf t p b w).2.2).1, (hashL t w n (bytesOf t p b w).2.1 (bytesOf t p b w).2.2).2)
theorem bytesOf_bad (t : Bs) (p w : Nat) : bytesOf t p true w = ([], p, true) := by simp [bytesOf]
theorem hashL_bad (t : Bs) (w : Nat) : ∀ (n p : Nat), (hashL t w n p true).2.2 = true
  | 0, p => rfl
  | n + 1, p => by simp only [hashL, bytesOf_bad]; exact hashL_bad t w n p
theorem hashL_enc {t : Bs} {w : Nat} : ∀ {n p q : Nat} {b : Bool} {s : List Bs}, hashL t w n p b = (s, q, false) → p ≤ t.length → b = false ∧ s.length = n ∧ (∀ x ∈ s, x.length = w) ∧ q ≤ t.length ∧ t.drop p = s.flatten ++ t.drop q
  | 0, p, q, b, s, h, hp => by
    simp only [hashL, Prod.mk.injEq] at h
    obtain ⟨rfl, rfl, rfl⟩ := h
    exact ⟨rfl, rfl, fun x hx => absurd hx (List.not_mem_nil), hp, by simp⟩
  | n + 1, p, q, b, s, h, hp => by
    by_cases hc : b = true ∨ t.length - p < w
    · have e : bytesOf t p b w = ([], p, true) := by rw [bytesOf, if_pos hc]
      simp only [hashL, e] at h
      have := hashL_bad t w n p
      have h2 := congrArg (fun x => x.2.2) h
      simp only at h2
      rw [this] at h2; cases h2
    · have e : bytesOf t p b w = ((t.drop p).take w, p + w, b) := by rw [bytesOf, if_neg hc]
      have hb : b = false := by cases b <;> simp at hc ⊢
      have hw : ¬ t.length - p < w := fun h => hc (.inr h)
      simp only [hashL, e] at h
      rcases hR : hashL t w n (p + w) b with ⟨s', q', b'⟩
      rw [hR] at h
      simp only [Prod.mk.injEq] at h
      obtain ⟨rfl, rfl, rfl⟩ := h
      obtain ⟨_, i2, i3, i4, i5⟩ := hashL_enc hR (by omega)
      refine ⟨hb, by simp [i2], fun x hx => ?_, i4, ?_⟩
      · rcases List.mem_cons.1 hx with rfl | hx
        · simp; omega
        · exact i3 x hx
      · rw [List.flatten_cons, List.append_assoc, ← i5, ← List.drop_drop, List.take_append_drop]
theorem hashL_dec {t : Bs} {w : Nat} : ∀ {s : List Bs} {p : Nat} {r : Bs}, (∀ x ∈ s, x.length = w) → t.drop p = s.flatten ++ r → hashL t w s.length p false = (s, p + s.flatten.length, false)
  | [], p, r, _, _ => by simp [hashL]
  | x :: s, p, r, hs, h => by
    have hx := hs x (by simp)
    have hl := congrArg List.length h
    simp at hl
    have e : bytesOf t p false w = (x, p + w, false) := by
      rw [bytesOf, if_neg (by simp; omega), h, List.flatten_cons, List.append_assoc, ← hx, List.take_left]
    have hd : t.drop (p + w) = s.flatten ++ r := by rw [← List.drop_drop, h, List.flatten_cons, List.append_assoc, ← hx, List.drop_left]
    have ih := hashL_dec (fun y hy => hs y (by simp [hy])) hd
    rw [List.length_cons, hashL, e]
    simp only [ih]
    simp [hx]; omega
/-! ### proofs -/
def proofText (l : List Lf) (s : List Bs) : Bs := leavesText l ++ (varText s.length ++ s.flatten)
def wideB (s : List Bs) (w : Int) : Bool := s.all (fun x => decide ((x.length : Int) = w)) && inB w 1 32
def proofOkB (l : List Lf) (s : List Bs) (w : Int) : Bool := leavesOk l && decide (s.length ≤ 8) && wideB s w
def readPfI (t : Bs) (w : Nat) : Option (List Lf × List Bs) :=
  let A := leavesI t 0 false
  let B := numOf t A.2.1 A.2.2
  if 8 < B.1 then none else
    let C := hashL t w B.1 B.2.1 B.2.2
    if doneB C.2.2 C.2.1 t.length = true then some (A.1, C.1) else none
theorem proofOk_iff {l : List Lf} {s : List Bs} {w : Int} : proofOkB l s w = true ↔ leavesOk l = true ∧ s.length ≤ 8 ∧ (∀ x ∈ s, (x.length : Int) = w) ∧ 1 ≤ w ∧ w ≤ 32 := by
  simp [proofOkB, wideB, inB, and_assoc]
theorem pfI_iff {t : Bs} {w : Nat} (hw : 1 ≤ w ∧ w ≤ 32) {l : List Lf} {s : List Bs} : readPfI t w = some (l, s) ↔ proofOkB l s w = true ∧ t = proofText l s := by
  rw [proofOk_iff]
  constructor
  · intro h
    rcases hA : leavesI t 0 false with ⟨l', p1, b1⟩
    have hp1 := leavesI_le (t := t) (p := 0) (b := false) (by omega)
    rcases hB : numOf t p1 b1 with ⟨n, p2, b2⟩
    rcases hC : hashL t w n p2 b2 with ⟨s', p3, b3⟩
    rw [hA] at hp1
    simp only at hp1
    have hp2 := (numOf_le (t := t) (p := p1) (bad := b1) hp1).1
    rw [hB] at hp2
    simp only at hp2
    simp only [readPfI, hA, hB, hC] at h
    split at h
    · cases h
    · rename_i h8
      split at h
      · rename_i hd
        injection h with h; injection h with e1 e2; subst e1; subst e2
        simp only [doneB, Bool.and_eq_true, Bool.not_eq_true', beq_iff_eq] at hd
        obtain ⟨rfl, rfl⟩ := hd
        obtain ⟨rfl, c2, c3, c4, c5⟩ := hashL_enc hC hp2
        obtain ⟨rfl, _, d1, _⟩ := numOf_enc hB
        obtain ⟨_, a2, a3, a4⟩ := leavesI_enc hA (by omega)
        refine ⟨⟨a2, by omega, fun x hx => by rw [c3 x hx], by omega, by omega⟩, ?_⟩
        rw [List.drop_zero] at a4
        rw [List.drop_length, List.append_nil] at c5
        rw [a4, d1, c5, c2.symm]; rfl
      · cases h
  · rintro ⟨⟨h1, h2, h3, h4, h5⟩, ht⟩
    have hA := leavesI_dec (t := t) (p := 0) h1 (r := varText s.length ++ s.flatten) (by rw [List.drop_zero, ht]; rfl)
    have hd1 : t.drop (0 + (leavesText l).length) = varText s.length ++ s.flatten := by rw [ht, proofText, Nat.zero_add, List.drop_left]
    have hB := numOf_dec (by omega) hd1 false
    have hd2 : t.drop (0 + (leavesText l).length + (varText s.length).length) = s.flatten ++ [] := by rw [← List.drop_drop, hd1, List.drop_left, List.append_nil]
    have hC := hashL_dec (w := w) (fun x hx => by have := h3 x hx; omega) hd2
    have hl : t.length = (leavesText l).length + (varText s.length).length + s.flatten.length := by rw [ht, proofText]; simp [Nat.add_assoc]
    simp only [readPfI, hA, hB, hC, if_neg (show ¬ 8 < s.length by omega)]
    rw [if_pos]
    rw [hl]; simp [doneB]
end Go.Proofs.YtigfpjnjjndenaaGreatDoor.Pl
