/- Plain: what is read is what was written, and the other way round. -/
import Derived.Test.YtkdajahiaedoiaaPlain
namespace Go.Proofs.Ytkdajahiaedoiaa.Pl

theorem rvGo_val : ∀ (f k n : Nat) (r : Bs) (m c : Nat), rvGo f k n r = some (m, c) →
    ∃ (ds : Bs) (x : UInt8) (r' : Bs), r = ds ++ x :: r' ∧ (∀ d ∈ ds, 128 ≤ d.toNat) ∧ x.toNat < 128 ∧ c = k + ds.length + 1 ∧ m = n + val (ds ++ [x]) * 128 ^ k ∧ (x.toNat ≠ 0 ∨ (ds = [] ∧ k = 0))
  | 0, _, _, _, _, _, h => by cases h
  | _ + 1, _, _, [], _, _, h => by cases h
  | f + 1, k, n, x :: r, m, c, h => by
    rw [rvGo] at h
    split at h
    · rename_i hx
      split at h
      · cases h
      · rename_i hb
        injection h with h; injection h with h1 h2
        refine ⟨[], x, r, rfl, by simp, hx, by simp; omega, ?_, ?_⟩
        · have : val ([] ++ [x]) = x.toNat := by simp [val]; omega
          rw [this, pow_128, h1]
        · by_cases h0 : x.toNat = 0
          · right; refine ⟨rfl, ?_⟩; omega
          · exact .inl h0
    · rename_i hx
      obtain ⟨ds, y, r', e, hd, hy, hc, hm, hz⟩ := rvGo_val f (k + 1) _ r m c h
      refine ⟨x :: ds, y, r', by rw [e]; rfl, ?_, hy, by rw [List.length_cons]; omega, ?_, ?_⟩
      · intro d hd'
        rcases List.mem_cons.1 hd' with rfl | hd'
        · omega
        · exact hd d hd'
      · rw [hm, List.cons_append, val, ← pow_128, Nat.pow_succ]
        have e1 : val (ds ++ [y]) * (128 ^ k * 128) = 128 * val (ds ++ [y]) * 128 ^ k := by rw [Nat.mul_comm (128 ^ k) 128, ← Nat.mul_assoc, Nat.mul_comm (val _) 128]
        rw [e1, Nat.add_mul, Nat.add_assoc]
      · rcases hz with hz | ⟨_, hz⟩
        · exact .inl hz
        · omega

/-- What ReadVar reads is what VarText writes. -/
theorem readVar_enc {t : Bs} {p n q : Nat} (h : readVar t p = some (n, q)) : t.drop p = varText n ++ t.drop q ∧ q = p + (varText n).length := by
  have hb := readVar_bounds h
  unfold readVar at h
  rcases hg : rvGo 5 0 0 (t.drop p) with _ | ⟨m, c⟩
  · rw [hg] at h; cases h
  · rw [hg] at h
    simp at h
    obtain ⟨rfl, rfl⟩ := h
    obtain ⟨ds, x, r', e, hd, hx, hc, hm, hz⟩ := rvGo_val _ _ _ _ _ _ hg
    simp at hm hc
    have hv : varText m = ds ++ [x] := by
      rw [hm]
      refine (varText_val x hx ds hd).2 ?_
      rcases hz with hz | ⟨hz, _⟩
      · exact .inl hz
      · exact .inr hz
    have hl : (varText m).length = c := by rw [hv]; simp; omega
    refine ⟨?_, by rw [hl]⟩
    rw [← List.drop_drop, e, hv]
    have : (ds ++ x :: r').drop c = r' := by
      rw [hc]
      have e2 : ds ++ x :: r' = (ds ++ [x]) ++ r' := by simp
      rw [e2]
      have : ds.length + 1 = (ds ++ [x]).length := by simp
      rw [this, List.drop_left]
    rw [this]; simp

theorem varText_shape : ∀ (n : Nat), ∃ (ds : Bs) (x : UInt8), varText n = ds ++ [x] ∧ (∀ d ∈ ds, 128 ≤ d.toNat) ∧ x.toNat < 128 ∧ (x.toNat ≠ 0 ∨ ds = []) ∧ val (ds ++ [x]) = n := by
  intro n
  induction n using Nat.strongRecOn with
  | ind n ih =>
    by_cases hn : n ≤ 127
    · refine ⟨[], UInt8.ofNat n, varText_small hn, by simp, ?_, .inr rfl, ?_⟩
      · simp; omega
      · simp [val]; omega
    · obtain ⟨ds, x, e, hd, hx, hz, hv⟩ := ih (n / 128) (by omega)
      have ht : (UInt8.ofNat (128 + n % 128)).toNat = 128 + n % 128 := by simp; omega
      refine ⟨UInt8.ofNat (128 + n % 128) :: ds, x, by rw [varText_big hn, e]; rfl, ?_, hx, ?_, ?_⟩
      · intro d hd'
        rcases List.mem_cons.1 hd' with rfl | hd'
        · omega
        · exact hd d hd'
      · rcases hz with hz | hz
        · exact .inl hz
        · subst hz
          left
          intro h0
          simp [val, h0] at hv
          omega
      · rw [List.cons_append, val, hv, ht]; omega

theorem rvGo_dec : ∀ (ds : Bs) (x : UInt8) (r : Bs) (f k n : Nat), (∀ d ∈ ds, 128 ≤ d.toNat) → x.toNat < 128 → (x.toNat ≠ 0 ∨ (ds = [] ∧ k = 0)) → ds.length < f → n + val (ds ++ [x]) * 128 ^ k ≤ 1000000000 →
    rvGo f k n (ds ++ x :: r) = some (n + val (ds ++ [x]) * 128 ^ k, k + ds.length + 1)
  | [], x, r, f + 1, k, n, _, hx, hz, _, hm => by
    have hv : val ([] ++ [x]) = x.toNat := by simp [val]; omega
    rw [hv, pow_128] at hm ⊢
    exact rvGo_last f k n x r hx (by rcases hz with h | ⟨_, h⟩ <;> omega) hm
  | d :: ds, x, r, f + 1, k, n, hd, hx, hz, hf, hm => by
    have hd1 : 128 ≤ d.toNat := hd d (by simp)
    have hz1 : x.toNat ≠ 0 := by
      rcases hz with h | ⟨h, _⟩
      · exact h
      · cases h
    have e : n + d.toNat % 128 * 2 ^ (7 * k) + val (ds ++ [x]) * 128 ^ (k + 1) = n + val (d :: ds ++ [x]) * 128 ^ k := by
      rw [List.cons_append, val, ← pow_128, Nat.pow_succ]
      have e1 : val (ds ++ [x]) * (128 ^ k * 128) = 128 * val (ds ++ [x]) * 128 ^ k := by rw [Nat.mul_comm (128 ^ k) 128, ← Nat.mul_assoc, Nat.mul_comm (val _) 128]
      rw [e1, Nat.add_mul, Nat.add_assoc]
    rw [List.cons_append, rvGo_more _ _ _ _ _ (by omega), rvGo_dec ds x r f (k + 1) _ (fun y hy => hd y (by simp [hy])) hx (.inl hz1) (by simpa using hf) (by rw [e]; exact hm), e]
    simp; omega

/-- What VarText writes is read. -/
theorem readVar_dec {t : Bs} {p n : Nat} {r : Bs} (hn : n ≤ 1000000000) (h : t.drop p = varText n ++ r) : readVar t p = some (n, p + (varText n).length) := by
  obtain ⟨ds, x, e, hd, hx, hz, hv⟩ := varText_shape n
  have hl := varText_len (n := n) (by omega)
  rw [e] at hl
  simp at hl
  have hg := rvGo_dec ds x r 5 0 0 hd hx (by rcases hz with h | h <;> simp [h]) (by omega) (by rw [hv]; omega)
  rw [readVar, h, e, List.append_assoc]
  show (rvGo 5 0 0 (ds ++ x :: r)).map _ = _
  rw [hg, hv]
  simp

/-- What ReadShort reads is what ShortText writes. -/
theorem readShort_enc {t : Bs} {p q : Nat} {l : Bs} (h : readShort t p = some (l, q)) : t.drop p = shortText l ++ t.drop q ∧ q = p + (shortText l).length := by
  unfold readShort at h
  rcases hr : readVar t p with _ | ⟨n, c⟩
  · rw [hr] at h; cases h
  · have hb := readVar_bounds hr
    obtain ⟨e1, e2⟩ := readVar_enc hr
    rw [hr] at h
    simp only at h
    split at h
    · rename_i hc
      injection h with h; injection h with h1 h2; subst h1; subst h2
      have hl : ((t.drop c).take n).length = n := by simp; omega
      refine ⟨?_, by rw [shortText, List.length_append, hl]; omega⟩
      rw [shortText, hl, e1, List.append_assoc, ← List.drop_drop, List.take_append_drop]
    · cases h
theorem readShort_dec {t : Bs} {p : Nat} {l r : Bs} (hl : l.length ≤ 20000) (h : t.drop p = shortText l ++ r) : readShort t p = some (l, p + (shortText l).length) := by
  have hr : readVar t p = some (l.length, p + (varText l.length).length) := readVar_dec (r := l ++ r) (by omega) (by rw [h, shortText, List.append_assoc])
  have hd : t.drop (p + (varText l.length).length) = l ++ r := by rw [← List.drop_drop, h, shortText, List.append_assoc, List.drop_left]
  have hlen := congrArg List.length hd
  simp at hlen
  rw [readShort, hr]
  simp only
  rw [if_pos ⟨hl, by omega⟩, hd, List.take_left, shortText, List.length_append]
  simp; omega

/-! ### readers that go on, and readers that stop at the first fault -/
def numS (t : Bs) (p : Nat) (bad : Bool) : Nat × Nat × Bool := if bad = true then (0, p, true) else numOf t p false
def shortS (t : Bs) (p : Nat) (bad : Bool) : Bs × Nat × Bool := if bad = true then ([], p, true) else shortOf t p false
theorem numOf_bad (t : Bs) (p : Nat) : (numOf t p true).2.2 = true := by unfold numOf; split <;> rfl
theorem shortOf_bad (t : Bs) (p : Nat) : (shortOf t p true).2.2 = true := by unfold shortOf; split <;> rfl
theorem numS_bad (t : Bs) (p : Nat) : (numS t p true).2.2 = true := rfl
theorem shortS_bad (t : Bs) (p : Nat) : (shortS t p true).2.2 = true := rfl
theorem numS_good (t : Bs) (p : Nat) : numS t p false = numOf t p false := rfl
theorem shortS_good (t : Bs) (p : Nat) : shortS t p false = shortOf t p false := rfl
theorem numOf_enc {t : Bs} {p n q : Nat} {b : Bool} (h : numOf t p b = (n, q, false)) : b = false ∧ n ≤ 1000000000 ∧ t.drop p = varText n ++ t.drop q ∧ q = p + (varText n).length := by
  unfold numOf at h
  rcases hr : readVar t p with _ | ⟨m, c⟩
  · rw [hr] at h; simp at h
  · rw [hr] at h
    simp at h
    obtain ⟨rfl, rfl, rfl⟩ := h
    exact ⟨rfl, (readVar_bounds hr).2.2.2, readVar_enc hr⟩
theorem shortOf_enc {t : Bs} {p q : Nat} {l : Bs} {b : Bool} (h : shortOf t p b = (l, q, false)) : b = false ∧ l.length ≤ 20000 ∧ t.drop p = shortText l ++ t.drop q ∧ q = p + (shortText l).length := by
  unfold shortOf at h
  rcases hr : readShort t p with _ | ⟨m, c⟩
  · rw [hr] at h; simp at h
  · rw [hr] at h
    simp at h
    obtain ⟨rfl, rfl, rfl⟩ := h
    exact ⟨rfl, (readShort_bounds hr).2.2, readShort_enc hr⟩
theorem numOf_dec {t : Bs} {p n : Nat} {r : Bs} (hn : n ≤ 1000000000) (h : t.drop p = varText n ++ r) (b : Bool) : numOf t p b = (n, p + (varText n).length, b) := by
  rw [numOf, readVar_dec hn h]
theorem shortOf_dec {t : Bs} {p : Nat} {l r : Bs} (hl : l.length ≤ 20000) (h : t.drop p = shortText l ++ r) (b : Bool) : shortOf t p b = (l, p + (shortText l).length, b) := by
  rw [shortOf, readShort_dec hl h]
theorem drop_all {t : Bs} {p : Nat} (h : t.drop p = []) (hp : p ≤ t.length) : p = t.length := by
  have := congrArg List.length h
  simp at this
  omega
theorem numS_le {t : Bs} {p : Nat} {bad : Bool} (hp : p ≤ t.length) : (numS t p bad).2.1 ≤ t.length ∧ (numS t p bad).1 ≤ 1000000000 := by
  unfold numS; split
  · exact ⟨hp, by simp⟩
  · exact numOf_le hp
theorem shortS_le {t : Bs} {p : Nat} {bad : Bool} (hp : p ≤ t.length) : (shortS t p bad).2.1 ≤ t.length ∧ (shortS t p bad).1.length ≤ 20000 := by
  unfold shortS; split
  · exact ⟨hp, by simp⟩
  · exact shortOf_le hp
end Go.Proofs.Ytkdajahiaedoiaa.Pl
