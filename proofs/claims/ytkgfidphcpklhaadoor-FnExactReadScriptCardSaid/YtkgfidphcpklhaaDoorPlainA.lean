/- Plain: the checksum. Plain: what is read is what was written, and the other way round. Plain: letters. Plain: entries. Entries, no program in sight: both readers agree. Plain: an entry is looked up, put, dropped. Plain: what holds of an entry that is put, and of one that is dropped; entries are read as they were written. Plain: proofs are read as they were written, by the program and by the reference alike. -/
import Derived.Test.YtkgfidphcpklhaaDoorPlain
import Derived.Laws.BitsAllLaws
set_option linter.unusedSimpArgs false
namespace Go.Proofs.YtkgfidphcpklhaaDoor.Pl
def step1 (s : Nat) : Nat := if s % 2 = 1 then (s / 2) ^^^ 3558460437 else s / 2
def stepN : Nat → Nat → Nat
  | 0, s => s
  | n + 1, s => step1 (stepN n s)
def sumMore (s : Nat) (l : Bs) : Nat := l.foldl (fun s b => stepN 8 (s ^^^ b.toNat)) s
def sumOf (l : Bs) : Nat := sumMore 4294967295 l
theorem xor_lt {a b : Nat} (ha : (a : Int) ≤ 4294967295) (hb : (b : Int) ≤ 4294967295) : ((a ^^^ b : Nat) : Int) ≤ 4294967295 := by
  have : a ^^^ b < 2 ^ 32 := Nat.xor_lt_two_pow (by omega) (by omega)
  omega
theorem step1_lt {a : Nat} (ha : (a : Int) ≤ 4294967295) : ((step1 a : Nat) : Int) ≤ 4294967295 := by
  unfold step1; split
  · exact xor_lt (by omega) (by omega)
  · omega
theorem stepN_lt {a : Nat} (ha : (a : Int) ≤ 4294967295) : ∀ n, ((stepN n a : Nat) : Int) ≤ 4294967295
  | 0 => ha
  | n + 1 => step1_lt (stepN_lt ha n)
theorem sumMore_snoc (s : Nat) (l : Bs) (b : UInt8) : sumMore s (l ++ [b]) = stepN 8 (sumMore s l ^^^ b.toNat) := by simp [sumMore]
theorem sumMore_lt {s : Nat} (hs : (s : Int) ≤ 4294967295) : ∀ l : Bs, ((sumMore s l : Nat) : Int) ≤ 4294967295 := by
  intro l
  unfold sumMore
  induction l generalizing s with
  | nil => exact hs
  | cons b l ih =>
    rw [List.foldl_cons]
    refine ih (stepN_lt (xor_lt hs ?_) 8)
    have := b.toNat_lt; omega
theorem sumOf_lt (l : Bs) : ((sumOf l : Nat) : Int) ≤ 4294967295 := sumMore_lt (by omega) l
theorem take_snoc_nb (s : ByteArray) (k : Nat) (h : k < s.size) : ∃ b : UInt8, b.toNat = nb s k ∧ s.data.toList.take (k + 1) = s.data.toList.take k ++ [b] := by
  obtain ⟨b, hb, hd⟩ := drop_nb s k h
  refine ⟨b, hb, ?_⟩
  rw [List.take_add, hd]; rfl
theorem xr32 {a b : Nat} (ha : (a : Int) ≤ 4294967295) (hb : (b : Int) ≤ 4294967295) : bits .xor .u32 (a : Int) (b : Int) = ((a ^^^ b : Nat) : Int) := u32_xor_nat a b (by omega) (by omega)
theorem xr32_half {a : Nat} (ha : (a : Int) ≤ 4294967295) : bits .xor .u32 ((a : Int) / 2) 3558460437 = (((a / 2) ^^^ 3558460437 : Nat) : Int) := by
  have := xr32 (a := a / 2) (b := 3558460437) (by omega) (by omega)
  rw [← this]
  congr 1
theorem and1_u32 {y : Nat} (hy : (y : Int) ≤ 4294967295) : bits .and .u32 (y : Int) 1 = ((y % 2 : Nat) : Int) := by
  have := u32_and_nat y 1 (by omega) (by omega)
  rw [← nat_mask1, ← this]; rfl
/-- A number of 32 bits in four bytes. -/
def fourB (x : Nat) : Bs := [UInt8.ofNat (x / 16777216), UInt8.ofNat (x / 65536), UInt8.ofNat (x / 256), UInt8.ofNat x]

theorem fourB_len (x : Nat) : (fourB x).length = 4 := rfl
def sealed (t : Bs) : Bs := t ++ fourB (sumOf t)
def unsealed (t : Bs) : Option Bs :=
  if 4 ≤ t.length ∧ t.length ≤ 20004 ∧ t.drop (t.length - 4) = fourB (sumOf (t.take (t.length - 4))) then some (t.take (t.length - 4)) else none
end Go.Proofs.YtkgfidphcpklhaaDoor.Pl
namespace Go.Proofs.YtkgfidphcpklhaaDoor.Pl

theorem rvGo_val : ∀ (f k n : Nat) (r : Bs) (m c : Nat), rvGo f k n r = some (m, c) →
    ∃ (ds : Bs) (x : UInt8) (r' : Bs), r = ds ++ x :: r' ∧ (∀ d ∈ ds, 128 ≤ d.toNat) ∧ x.toNat < 128 ∧ c = k + ds.length + 1 ∧ m = n + val (ds ++ [x]) * 128 ^ k ∧ (x.toNat ≠ 0 ∨ (ds = [] ∧ k = 0))
  | 0, _, _, _, _, _, h => by cases h
  | _ + 1, _, _, [], _, _, h => by cases h
  | f + 1, k, n, x :: r, m, c, h => by
    rw [rvGo] at h
    split at h
    · rename_i hx
      split at h
      · cases h
      · rename_i hb
        injection h with h; injection h with h1 h2
        refine ⟨[], x, r, rfl, by simp, hx, by simp; omega, ?_, ?_⟩
        · have : val ([] ++ [x]) = x.toNat := by simp [val]; omega
          rw [this, pow_128, h1]
        · by_cases h0 : x.toNat = 0
          · right; refine ⟨rfl, ?_⟩; omega
          · exact .inl h0
    · rename_i hx
      obtain ⟨ds, y, r', e, hd, hy, hc, hm, hz⟩ := rvGo_val f (k + 1) _ r m c h
      refine ⟨x :: ds, y, r', by rw [e]; rfl, ?_, hy, by rw [List.length_cons]; omega, ?_, ?_⟩
      · intro d hd'
        rcases List.mem_cons.1 hd' with rfl | hd'
        · omega
        · exact hd d hd'
      · rw [hm, List.cons_append, val, ← pow_128, Nat.pow_succ]
        have e1 : val (ds ++ [y]) * (128 ^ k * 128) = 128 * val (ds ++ [y]) * 128 ^ k := by rw [Nat.mul_comm (128 ^ k) 128, ← Nat.mul_assoc, Nat.mul_comm (val _) 128]
        rw [e1, Nat.add_mul, Nat.add_assoc]
      · rcases hz with hz | ⟨_, hz⟩
        · exact .inl hz
        · omega

/-- What ReadVar reads is what VarText writes. -/
theorem readVar_enc {t : Bs} {p n q : Nat} (h : readVar t p = some (n, q)) : t.drop p = varText n ++ t.drop q ∧ q = p + (varText n).length := by
  have hb := readVar_bounds h
  unfold readVar at h
  rcases hg : rvGo 5 0 0 (t.drop p) with _ | ⟨m, c⟩
  · rw [hg] at h; cases h
  · rw [hg] at h
    simp at h
    obtain ⟨rfl, rfl⟩ := h
    obtain ⟨ds, x, r', e, hd, hx, hc, hm, hz⟩ := rvGo_val _ _ _ _ _ _ hg
    simp at hm hc
    have hv : varText m = ds ++ [x] := by
      rw [hm]
      refine (varText_val x hx ds hd).2 ?_
      rcases hz with hz | ⟨hz, _⟩
      · exact .inl hz
      · exact .inr hz
    have hl : (varText m).length = c := by rw [hv]; simp; omega
    refine ⟨?_, by rw [hl]⟩
    rw [← List.drop_drop, e, hv]
    have : (ds ++ x :: r').drop c = r' := by
      rw [hc]
      have e2 : ds ++ x :: r' = (ds ++ [x]) ++ r' := by simp
      rw [e2]
      have : ds.length + 1 = (ds ++ [x]).length := by simp
      rw [this, List.drop_left]
    rw [this]; simp

theorem varText_shape : ∀ (n : Nat), ∃ (ds : Bs) (x : UInt8), varText n = ds ++ [x] ∧ (∀ d ∈ ds, 128 ≤ d.toNat) ∧ x.toNat < 128 ∧ (x.toNat ≠ 0 ∨ ds = []) ∧ val (ds ++ [x]) = n := by
  intro n
  induction n using Nat.strongRecOn with
  | ind n ih =>
    by_cases hn : n ≤ 127
    · refine ⟨[], UInt8.ofNat n, varText_small hn, by simp, ?_, .inr rfl, ?_⟩
      · simp; omega
      · simp [val]; omega
    · obtain ⟨ds, x, e, hd, hx, hz, hv⟩ := ih (n / 128) (by omega)
      have ht : (UInt8.ofNat (128 + n % 128)).toNat = 128 + n % 128 := by simp; omega
      refine ⟨UInt8.ofNat (128 + n % 128) :: ds, x, by rw [varText_big hn, e]; rfl, ?_, hx, ?_, ?_⟩
      · intro d hd'
        rcases List.mem_cons.1 hd' with rfl | hd'
        · omega
        · exact hd d hd'
      · rcases hz with hz | hz
        · exact .inl hz
        · subst hz
          left
          intro h0
          simp [val, h0] at hv
          omega
      · rw [List.cons_append, val, hv, ht]; omega

theorem rvGo_dec : ∀ (ds : Bs) (x : UInt8) (r : Bs) (f k n : Nat), (∀ d ∈ ds, 128 ≤ d.toNat) → x.toNat < 128 → (x.toNat ≠ 0 ∨ (ds = [] ∧ k = 0)) → ds.length < f → n + val (ds ++ [x]) * 128 ^ k ≤ 1000000000 →
    rvGo f k n (ds ++ x :: r) = some (n + val (ds ++ [x]) * 128 ^ k, k + ds.length + 1)
  | [], x, r, f + 1, k, n, _, hx, hz, _, hm => by
    have hv : val ([] ++ [x]) = x.toNat := by simp [val]; omega
    rw [hv, pow_128] at hm ⊢
    exact rvGo_last f k n x r hx (by rcases hz with h | ⟨_, h⟩ <;> omega) hm
  | d :: ds, x, r, f + 1, k, n, hd, hx, hz, hf, hm => by
    have hd1 : 128 ≤ d.toNat := hd d (by simp)
    have hz1 : x.toNat ≠ 0 := by
      rcases hz with h | ⟨h, _⟩
      · exact h
      · cases h
    have e : n + d.toNat % 128 * 2 ^ (7 * k) + val (ds ++ [x]) * 128 ^ (k + 1) = n + val (d :: ds ++ [x]) * 128 ^ k := by
      rw [List.cons_append, val, ← pow_128, Nat.pow_succ]
      have e1 : val (ds ++ [x]) * (128 ^ k * 128) = 128 * val (ds ++ [x]) * 128 ^ k := by rw [Nat.mul_comm (128 ^ k) 128, ← Nat.mul_assoc, Nat.mul_comm (val _) 128]
      rw [e1, Nat.add_mul, Nat.add_assoc]
    rw [List.cons_append, rvGo_more _ _ _ _ _ (by omega), rvGo_dec ds x r f (k + 1) _ (fun y hy => hd y (by simp [hy])) hx (.inl hz1) (by simpa using hf) (by rw [e]; exact hm), e]
    simp; omega

/-- What VarText writes is read. -/
theorem readVar_dec {t : Bs} {p n : Nat} {r : Bs} (hn : n ≤ 1000000000) (h : t.drop p = varText n ++ r) : readVar t p = some (n, p + (varText n).length) := by
  obtain ⟨ds, x, e, hd, hx, hz, hv⟩ := varText_shape n
  have hl := varText_len (n := n) (by omega)
  rw [e] at hl
  simp at hl
  have hg := rvGo_dec ds x r 5 0 0 hd hx (by rcases hz with h | h <;> simp [h]) (by omega) (by rw [hv]; omega)
  rw [readVar, h, e, List.append_assoc]
  show (rvGo 5 0 0 (ds ++ x :: r)).map _ = _
  rw [hg, hv]
  simp

/-- What ReadShort reads is what ShortText writes. -/
theorem readShort_enc {t : Bs} {p q : Nat} {l : Bs} (h : readShort t p = some (l, q)) : t.drop p = shortText l ++ t.drop q ∧ q = p + (shortText l).length := by
  unfold readShort at h
  rcases hr : readVar t p with _ | ⟨n, c⟩
  · rw [hr] at h; cases h
  · have hb := readVar_bounds hr
    obtain ⟨e1, e2⟩ := readVar_enc hr
    rw [hr] at h
    simp only at h
    split at h
    · rename_i hc
      injection h with h; injection h with h1 h2; subst h1; subst h2
      have hl : ((t.drop c).take n).length = n := by simp; omega
      refine ⟨?_, by rw [shortText, List.length_append, hl]; omega⟩
      rw [shortText, hl, e1, List.append_assoc, ← List.drop_drop, List.take_append_drop]
    · cases h
theorem readShort_dec {t : Bs} {p : Nat} {l r : Bs} (hl : l.length ≤ 20000) (h : t.drop p = shortText l ++ r) : readShort t p = some (l, p + (shortText l).length) := by
  have hr : readVar t p = some (l.length, p + (varText l.length).length) := readVar_dec (r := l ++ r) (by omega) (by rw [h, shortText, List.append_assoc])
  have hd : t.drop (p + (varText l.length).length) = l ++ r := by rw [← List.drop_drop, h, shortText, List.append_assoc, List.drop_left]
  have hlen := congrArg List.length hd
  simp at hlen
  rw [readShort, hr]
  simp only
  rw [if_pos ⟨hl, by omega⟩, hd, List.take_left, shortText, List.length_append]
  simp; omega

/-! ### readers that go on, and readers that stop at the first fault -/
def numS (t : Bs) (p : Nat) (bad : Bool) : Nat × Nat × Bool := if bad = true then (0, p, true) else numOf t p false
def shortS (t : Bs) (p : Nat) (bad : Bool) : Bs × Nat × Bool := if bad = true then ([], p, true) else shortOf t p false
theorem numOf_bad (t : Bs) (p : Nat) : (numOf t p true).2.2 = true := by unfold numOf; split <;> rfl
theorem shortOf_bad (t : Bs) (p : Nat) : (shortOf t p true).2.2 = true := by unfold shortOf; split <;> rfl
theorem numS_bad (t : Bs) (p : Nat) : (numS t p true).2.2 = true := rfl
theorem shortS_bad (t : Bs) (p : Nat) : (shortS t p true).2.2 = true := rfl
theorem numS_good (t : Bs) (p : Nat) : numS t p false = numOf t p false := rfl
theorem shortS_good (t : Bs) (p : Nat) : shortS t p false = shortOf t p false := rfl
theorem numOf_enc {t : Bs} {p n q : Nat} {b : Bool} (h : numOf t p b = (n, q, false)) : b = false ∧ n ≤ 1000000000 ∧ t.drop p = varText n ++ t.drop q ∧ q = p + (varText n).length := by
  unfold numOf at h
  rcases hr : readVar t p with _ | ⟨m, c⟩
  · rw [hr] at h; simp at h
  · rw [hr] at h
    simp at h
    obtain ⟨rfl, rfl, rfl⟩ := h
    exact ⟨rfl, (readVar_bounds hr).2.2.2, readVar_enc hr⟩
theorem shortOf_enc {t : Bs} {p q : Nat} {l : Bs} {b : Bool} (h : shortOf t p b = (l, q, false)) : b = false ∧ l.length ≤ 20000 ∧ t.drop p = shortText l ++ t.drop q ∧ q = p + (shortText l).length := by
  unfold shortOf at h
  rcases hr : readShort t p with _ | ⟨m, c⟩
  · rw [hr] at h; simp at h
  · rw [hr] at h
    simp at h
    obtain ⟨rfl, rfl, rfl⟩ := h
    exact ⟨rfl, (readShort_bounds hr).2.2, readShort_enc hr⟩
theorem numOf_dec {t : Bs} {p n : Nat} {r : Bs} (hn : n ≤ 1000000000) (h : t.drop p = varText n ++ r) (b : Bool) : numOf t p b = (n, p + (varText n).length, b) := by
  rw [numOf, readVar_dec hn h]
theorem shortOf_dec {t : Bs} {p : Nat} {l r : Bs} (hl : l.length ≤ 20000) (h : t.drop p = shortText l ++ r) (b : Bool) : shortOf t p b = (l, p + (shortText l).length, b) := by
  rw [shortOf, readShort_dec hl h]
theorem drop_all {t : Bs} {p : Nat} (h : t.drop p = []) (hp : p ≤ t.length) : p = t.length := by
  have := congrArg List.length h
  simp at this
  omega
theorem numS_le {t : Bs} {p : Nat} {bad : Bool} (hp : p ≤ t.length) : (numS t p bad).2.1 ≤ t.length ∧ (numS t p bad).1 ≤ 1000000000 := by
  unfold numS; split
  · exact ⟨hp, by simp⟩
  · exact numOf_le hp
theorem shortS_le {t : Bs} {p : Nat} {bad : Bool} (hp : p ≤ t.length) : (shortS t p bad).2.1 ≤ t.length ∧ (shortS t p bad).1.length ≤ 20000 := by
  unfold shortS; split
  · exact ⟨hp, by simp⟩
  · exact shortOf_le hp
end Go.Proofs.YtkgfidphcpklhaaDoor.Pl
namespace Go.Proofs.YtkgfidphcpklhaaDoor.Pl
/-- Does a number lie between two? -/
def inB (n lo hi : Int) : Bool := decide (lo ≤ n) && decide (n ≤ hi)
def letterOk (k f t e y : Int) (r : Bs) : Bool :=
  inB e 1 4 && inB y 1 1000 && (if k = 1 ∨ k = 3 ∨ k = 4 then f == 0 && inB t 1 4 && r.isEmpty else if k = 2 then t == 0 && inB f 1 4 && r.length == 16 else if k = 5 then t == 0 && inB f 1 4 && r.isEmpty else false)

theorem inB_iff {n lo hi : Int} : inB n lo hi = true ↔ lo ≤ n ∧ n ≤ hi := by simp [inB]
theorem letterOk_bounds {k f t e y : Int} {r : Bs} (h : letterOk k f t e y r = true) : (1 ≤ k ∧ k ≤ 5) ∧ (0 ≤ f ∧ f ≤ 4) ∧ (0 ≤ t ∧ t ≤ 4) ∧ (1 ≤ e ∧ e ≤ 4) ∧ (1 ≤ y ∧ y ≤ 1000) ∧ r.length ≤ 16 := by
  unfold letterOk at h
  simp only [Bool.and_eq_true, inB_iff] at h
  obtain ⟨⟨he, hy⟩, h⟩ := h
  split at h
  · simp only [Bool.and_eq_true, inB_iff, beq_iff_eq, List.isEmpty_iff] at h
    refine ⟨by omega, by omega, by omega, he, hy, ?_⟩
    rw [h.2]; simp
  · split at h
    · simp only [Bool.and_eq_true, inB_iff, beq_iff_eq] at h
      exact ⟨by omega, by omega, by omega, he, hy, by omega⟩
    · split at h
      · simp only [Bool.and_eq_true, inB_iff, beq_iff_eq, List.isEmpty_iff] at h
        refine ⟨by omega, by omega, by omega, he, hy, ?_⟩
        rw [h.2]; simp
      · cases h
def letterBody (k f t e y : Nat) (r : Bs) : Bs := [UInt8.ofNat k, UInt8.ofNat f, UInt8.ofNat t, UInt8.ofNat e] ++ varText y ++ r
def letterText (k f t e y : Nat) (r : Bs) : Bs := sealed (letterBody k f t e y r)

theorem oneOf_bad (t : Bs) (p : Nat) : oneOf t p true = (0, p, true) := by unfold oneOf bytesOf; simp
theorem oneOf_le {t : Bs} {p : Nat} {b : Bool} (hp : p ≤ t.length) : (oneOf t p b).2.1 ≤ t.length ∧ (oneOf t p b).1 ≤ 255 := by
  unfold oneOf bytesOf
  split
  · rename_i h
    split at h
    · injection h with h1 h2; injection h2 with h2 h3; subst h2; simp [hp]
    · rename_i hc
      injection h with h1 h2; injection h2 with h2 h3; subst h2
      simp; omega
  · rename_i x l q b' h
    split at h
    · injection h with h1 h2; cases h1
    · rename_i hc
      injection h with h1 h2; injection h2 with h2 h3; subst h2
      have := x.toNat_lt
      simp; omega
theorem oneOf_enc {t : Bs} {p q n : Nat} {b : Bool} (h : oneOf t p b = (n, q, false)) : b = false ∧ q = p + 1 ∧ ∃ x : UInt8, x.toNat = n ∧ t.drop p = x :: t.drop q := by
  unfold oneOf bytesOf at h
  split at h
  · rename_i h2
    split at h2
    · injection h2 with h3 h4; injection h4 with h4 h5; subst h5; simp at h
    · rename_i hc
      injection h2 with h3 h4
      exfalso
      have hl := congrArg List.length h3
      simp at hl hc
      omega
  · rename_i x l q' b' h2
    split at h2
    · injection h2 with h3 h4; cases h3
    · rename_i hc
      injection h2 with h3 h4; injection h4 with h4 h5
      simp at h
      obtain ⟨rfl, rfl, rfl⟩ := h
      subst h4
      refine ⟨h5, rfl, x, rfl, ?_⟩
      rcases hd : t.drop p with _ | ⟨y, r⟩
      · rw [hd] at h3; simp at h3
      · rw [hd] at h3
        simp at h3
        rw [h3.1, ← List.drop_drop, hd]; rfl
theorem unsealed_enc {t s : Bs} (h : unsealed t = some s) : sealed s = t := by
  unfold unsealed at h
  split at h
  · rename_i hc
    injection h with h
    rw [sealed, ← h, ← hc.2.2, List.take_append_drop]
  · cases h
theorem unsealed_len {t s : Bs} (h : unsealed t = some s) : s.length ≤ 20000 := by
  unfold unsealed at h
  split at h
  · injection h with h
    rw [← h]; simp; omega
  · cases h
abbrev Lt := Nat × Nat × Nat × Nat × Nat × Bs
/-- What the program's ReadLetter reads of a text, unsealed or not. -/
def readLetterI (s : Bs) (ok : Bool) : Option Lt :=
  let (k, p1, b1) := oneOf s 0 false
  let (f, p2, b2) := oneOf s p1 b1
  let (t, p3, b3) := oneOf s p2 b2
  let (e, p4, b4) := oneOf s p3 b3
  let (y, p5, b5) := numOf s p4 b4
  if ok = true ∧ b5 = false ∧ letterOk k f t e y (s.drop p5) = true then some (k, f, t, e, y, s.drop p5) else none
/-- What the reference's ReadLetter reads. -/
def readLetterS (t s : Bs) (ok : Bool) : Option Lt :=
  let (k, p1, b1) := oneOf s 0 (!ok)
  let (f, p2, b2) := oneOf s p1 b1
  let (x, p3, b3) := oneOf s p2 b2
  let (e, p4, b4) := oneOf s p3 b3
  let (y, p5, b5) := numS s p4 b4
  if b5 = false ∧ letterOk k f x e y (s.drop p5) = true ∧ letterText k f x e y (s.drop p5) = t then some (k, f, x, e, y, s.drop p5) else none
theorem ofNat_eq {x : UInt8} {n : Nat} (h : x.toNat = n) : UInt8.ofNat n = x := by subst h; exact ofNat_toNat x
theorem readLetter_agree (t : Bs) (s : Bs) (ok : Bool) (h : ok = true → unsealed t = some s) : readLetterI s ok = readLetterS t s ok := by
  cases ok
  · simp only [readLetterI, readLetterS, Bool.not_false, oneOf_bad]
    simp [numS]
  · have hs := h rfl
    have hse := unsealed_enc hs
    rcases hK : oneOf s 0 false with ⟨k, p1, b1⟩
    rcases hF : oneOf s p1 b1 with ⟨f, p2, b2⟩
    rcases hT : oneOf s p2 b2 with ⟨x, p3, b3⟩
    rcases hE : oneOf s p3 b3 with ⟨e, p4, b4⟩
    rcases hY : numOf s p4 b4 with ⟨y, p5, b5⟩
    simp only [readLetterI, readLetterS, Bool.not_true, hK, hF, hT, hE, hY]
    cases b4
    · simp only [numS_good, hY]
      cases b5
      · obtain ⟨h3, q4, x4, e4, d4⟩ := oneOf_enc hE
        subst h3
        obtain ⟨h2, q3, x3, e3, d3⟩ := oneOf_enc hT
        subst h2
        obtain ⟨h1, q2, x2, e2, d2⟩ := oneOf_enc hF
        subst h1
        obtain ⟨_, q1, x1, e1, d1⟩ := oneOf_enc hK
        obtain ⟨_, _, d5, q5⟩ := numOf_enc hY
        have hb : letterBody k f x e y (s.drop p5) = s := by
          rw [letterBody, ofNat_eq e1, ofNat_eq e2, ofNat_eq e3, ofNat_eq e4, List.append_assoc, ← d5]
          show x1 :: x2 :: x3 :: x4 :: s.drop p4 = s
          rw [← d4, ← d3, ← d2, ← d1]; rfl
        have ht : letterText k f x e y (s.drop p5) = t := by rw [letterText, hb, hse]
        simp [ht]
      · simp
    · have hy := numOf_bad s p4
      rw [hY] at hy
      simp only at hy
      subst hy
      simp [numS]
end Go.Proofs.YtkgfidphcpklhaaDoor.Pl
namespace Go.Proofs.YtkgfidphcpklhaaDoor.Pl
abbrev Lf := Bs × Bs
def ltB (a b : Bs) : Bool := Op.bytesLess a b
def lfAt (l : List Lf) (i : Nat) : Lf := l.getD i ([], [])
def stepOk (l : List Lf) (i : Nat) : Bool := nameOk (lfAt l i).1 && valueOk (lfAt l i).2 && (i == 0 || ltB (lfAt l (i - 1)).1 (lfAt l i).1)
def leavesOk (l : List Lf) : Bool := decide (l.length ≤ 24) && (List.range l.length).all (stepOk l)
theorem leavesOk_bad {l : List Lf} {k : Nat} (hk : k < l.length) (h : stepOk l k = false) : leavesOk l = false := by
  have : (List.range l.length).all (stepOk l) = false := by
    rw [List.all_eq_false]
    exact ⟨k, List.mem_range.2 hk, by simp [h]⟩
  rw [leavesOk, this, Bool.and_false]
theorem leavesOk_long {l : List Lf} (h : 24 < l.length) : leavesOk l = false := by
  have : decide (l.length ≤ 24) = false := by simp; omega
  rw [leavesOk, this, Bool.false_and]
theorem leavesOk_good {l : List Lf} (hl : l.length ≤ 24) (h : ∀ k, k < l.length → stepOk l k = true) : leavesOk l = true := by
  have h1 : decide (l.length ≤ 24) = true := by simpa using hl
  have h2 : (List.range l.length).all (stepOk l) = true := List.all_eq_true.2 fun k hk => h k (List.mem_range.1 hk)
  rw [leavesOk, h1, h2]; rfl
theorem leavesOk_iff {l : List Lf} : leavesOk l = true ↔ l.length ≤ 24 ∧ ∀ k, k < l.length → stepOk l k = true := by
  constructor
  · intro h
    rw [leavesOk, Bool.and_eq_true, decide_eq_true_iff, List.all_eq_true] at h
    exact ⟨h.1, fun k hk => h.2 k (List.mem_range.2 hk)⟩
  · rintro ⟨h1, h2⟩; exact leavesOk_good h1 h2
/-- The bytes of entries. -/
def lfText (x : Lf) : Bs := shortText x.1 ++ shortText x.2
def leavesText (l : List Lf) : Bs := varText l.length ++ l.flatMap lfText

/-! ### marks -/
def decG (k : Nat) (out : Bs) : Bs := if k = 0 then out else decG (k / 10) (UInt8.ofNat (48 + k % 10) :: out)
termination_by k
decreasing_by omega
theorem decG_zero (out : Bs) : decG 0 out = out := by rw [decG, if_pos rfl]
theorem decG_step {k : Nat} (h : k ≠ 0) (out : Bs) : decG k out = decG (k / 10) (UInt8.ofNat (48 + k % 10) :: out) := by rw [decG, if_neg h]
def markText (k : Nat) : Bs := if k = 0 then [109, 48] else 109 :: decG k []

/-! ### reading entries -/
abbrev Sh := Nat → Bool → Bs × Nat × Bool
def lvLoop (sh : Sh) : Nat → Nat → Bool → List Lf × Nat × Bool
  | 0, p, b => ([], p, b)
  | _ + 1, p, true => ([], p, true)
  | n + 1, p, false => (((sh p false).1, (sh (sh p false).2.1 (sh p false).2.2).1) :: (lvLoop sh n (sh (sh p false).2.1 (sh p false).2.2).2.1 (sh (sh p false).2.1 (sh p false).2.2).2.2).1,
      (lvLoop sh n (sh (sh p false).2.1 (sh p false).2.2).2.1 (sh (sh p false).2.1 (sh p false).2.2).2.2).2)
/-- What is read is l and then what the loop reads from here on. -/
def LvAt (sh : Sh) (R : List Lf × Nat × Bool) (n : Nat) (l : List Lf) (q : Nat) (b : Bool) : Prop := R = (l ++ (lvLoop sh n q b).1, (lvLoop sh n q b).2)
theorem LvAt.start (sh : Sh) (n q : Nat) (b : Bool) : LvAt sh (lvLoop sh n q b) n [] q b := rfl
theorem LvAt.step {sh : Sh} {R : List Lf × Nat × Bool} {n q q1 q2 : Nat} {l : List Lf} {a v : Bs} {b1 b2 : Bool} (h : LvAt sh R (n + 1) l q false) (h1 : sh q false = (a, q1, b1)) (h2 : sh q1 b1 = (v, q2, b2)) : LvAt sh R n (l ++ [(a, v)]) q2 b2 := by
  unfold LvAt at h ⊢
  rw [h, lvLoop, h1]
  simp only [h2]
  simp
theorem LvAt.done {sh : Sh} {R : List Lf × Nat × Bool} {q : Nat} {l : List Lf} {b : Bool} (h : LvAt sh R 0 l q b) : R = (l, q, b) := by
  unfold LvAt at h; rw [h, lvLoop]; simp
theorem LvAt.bad {sh : Sh} {R : List Lf × Nat × Bool} {n q : Nat} {l : List Lf} (h : LvAt sh R n l q true) : R = (l, q, true) := by
  unfold LvAt at h; rw [h]
  cases n <;> simp [lvLoop]
/-- What the program's reader reads for entries. -/
def leavesI (t : Bs) (p : Nat) (bad : Bool) : List Lf × Nat × Bool :=
  let r := lvLoop (shortOf t) (numOf t p bad).1 (numOf t p bad).2.1 (if 24 < (numOf t p bad).1 then true else (numOf t p bad).2.2)
  (r.1, r.2.1, r.2.2 || !leavesOk r.1)
/-- What the reference's reader reads for entries. -/
def leavesS (t : Bs) (p : Nat) (bad : Bool) : List Lf × Nat × Bool :=
  lvLoop (shortS t) (min (numS t p bad).1 30) (numS t p bad).2.1 (numS t p bad).2.2
end Go.Proofs.YtkgfidphcpklhaaDoor.Pl
namespace Go.Proofs.YtkgfidphcpklhaaDoor.Pl
set_option linter.unusedVariables false

theorem lvLoop_bad (sh : Sh) (n q : Nat) : lvLoop sh n q true = ([], q, true) := by cases n <;> rfl
theorem lvLoop_step {sh : Sh} {n q q1 q2 : Nat} {a v : Bs} {b1 b2 : Bool} (h1 : sh q false = (a, q1, b1)) (h2 : sh q1 b1 = (v, q2, b2)) :
    lvLoop sh (n + 1) q false = ((a, v) :: (lvLoop sh n q2 b2).1, (lvLoop sh n q2 b2).2) := by
  rw [lvLoop, h1]; simp only [h2]
theorem lvLoop_agree (t : Bs) : ∀ (n q : Nat) (b : Bool), ((lvLoop (shortOf t) n q b).2.2 = true ∧ (lvLoop (shortS t) n q b).2.2 = true) ∨ lvLoop (shortOf t) n q b = lvLoop (shortS t) n q b
  | 0, q, b => .inr rfl
  | n + 1, q, true => .inr rfl
  | n + 1, q, false => by
    rcases h1 : shortOf t q false with ⟨a, q1, b1⟩
    have h1' : shortS t q false = (a, q1, b1) := by rw [shortS_good]; exact h1
    rcases h2 : shortOf t q1 b1 with ⟨v, q2, b2⟩
    rcases h2' : shortS t q1 b1 with ⟨v', q2', b2'⟩
    rw [lvLoop_step h1 h2, lvLoop_step h1' h2']
    cases b1
    · rw [shortS_good, h2] at h2'
      cases h2'
      rcases lvLoop_agree t n q2 b2 with h | h
      · exact .inl h
      · right; rw [h]
    · have e1 := shortOf_bad t q1
      have e2 := shortS_bad t q1
      rw [h2] at e1
      rw [h2'] at e2
      simp only at e1 e2
      subst e1; subst e2
      simp [lvLoop_bad]
theorem lvLoop_enc {t : Bs} : ∀ {n q q2 : Nat} {l : List Lf}, lvLoop (shortOf t) n q false = (l, q2, false) → q ≤ t.length →
    l.length = n ∧ q2 ≤ t.length ∧ t.drop q = l.flatMap lfText ++ t.drop q2
  | 0, q, q2, l, h, hq => by
    simp only [lvLoop] at h
    cases h
    exact ⟨rfl, hq, by simp⟩
  | n + 1, q, q2, l, h, hq => by
    rcases h1 : shortOf t q false with ⟨a, q1, b1⟩
    rcases h2 : shortOf t q1 b1 with ⟨v, q3, b2⟩
    rw [lvLoop_step h1 h2] at h
    cases b2
    · obtain ⟨hb, _, d2, _⟩ := shortOf_enc h2
      subst hb
      obtain ⟨_, _, d1, _⟩ := shortOf_enc h1
      have l1 := (shortOf_le (bad := false) hq).1
      rw [h1] at l1
      have l2 := (shortOf_le (bad := false) (p := q1) l1).1
      rw [h2] at l2
      rcases hr : lvLoop (shortOf t) n q3 false with ⟨l', q4, b4⟩
      rw [hr] at h
      simp only at h
      cases h
      obtain ⟨e1, e2, e3⟩ := lvLoop_enc hr l2
      refine ⟨by simp [e1], e2, ?_⟩
      rw [List.flatMap_cons, lfText, d1, d2, e3]
      simp
    · rw [lvLoop_bad] at h
      simp at h
theorem lvLoop_le {sh : Sh} {t : Bs} (hs : ∀ p b, p ≤ t.length → (sh p b).2.1 ≤ t.length) : ∀ (n q : Nat) (b : Bool), q ≤ t.length → (lvLoop sh n q b).2.1 ≤ t.length
  | 0, q, b, h => h
  | n + 1, q, true, h => h
  | n + 1, q, false, h => lvLoop_le hs n _ _ (hs _ _ (hs _ _ h))
theorem leavesI_le {t : Bs} {p : Nat} {b : Bool} (h : p ≤ t.length) : (leavesI t p b).2.1 ≤ t.length := by
  simp only [leavesI]
  exact lvLoop_le (fun p b hp => (shortOf_le hp).1) _ _ _ (numOf_le h).1
theorem leavesS_le {t : Bs} {p : Nat} {b : Bool} (h : p ≤ t.length) : (leavesS t p b).2.1 ≤ t.length := by
  simp only [leavesS]
  exact lvLoop_le (fun p b hp => (shortS_le hp).1) _ _ _ (numS_le h).1
/-- Whole texts: what the program reads, and what the reference reads. -/
def readLvI (t : Bs) : Option (List Lf) :=
  let R := leavesI t 0 false
  if doneB R.2.2 R.2.1 t.length = true then some R.1 else none
def readLvS (t : Bs) : Option (List Lf) :=
  let R := leavesS t 0 false
  if R.2.2 = false ∧ leavesOk R.1 = true ∧ leavesText R.1 = t then some R.1 else none
theorem readLv_agree (t : Bs) : readLvI t = readLvS t := by
  rcases hN : numOf t 0 false with ⟨n, p1, b1⟩
  have hN' : numS t 0 false = (n, p1, b1) := by rw [numS_good]; exact hN
  simp only [readLvI, readLvS, leavesI, leavesS, hN, hN']
  have hp := (numOf_le (bad := false) (p := 0) (t := t) (by omega)).1
  rw [hN] at hp
  simp only at hp
  cases b1
  · obtain ⟨_, _, d0, _⟩ := numOf_enc hN
    by_cases h24 : 24 < n
    · rw [if_pos h24]
      simp only [lvLoop_bad, doneB]
      rcases hS : lvLoop (shortS t) (min n 30) p1 false with ⟨l, q, b⟩
      rcases lvLoop_agree t (min n 30) p1 false with h | h
      · rw [hS] at h
        have := h.2
        simp only at this
        subst this
        simp
      · rw [hS] at h
        cases b
        · have hl := (lvLoop_enc h hp).1
          have := leavesOk_long (l := l) (by omega)
          simp [this]
        · simp
    · rw [if_neg h24, show min n 30 = n from by omega]
      rcases lvLoop_agree t n p1 false with h | h
      · simp [h.1, h.2, doneB]
      · rcases hS : lvLoop (shortS t) n p1 false with ⟨l, q, b⟩
        rw [h, hS]
        rw [hS] at h
        cases b
        · obtain ⟨e1, e2, e3⟩ := lvLoop_enc h hp
          have hT : leavesText l ++ t.drop q = t := by
            rw [leavesText, e1, List.append_assoc, ← e3, ← d0]; rfl
          cases leavesOk l
          · simp [doneB]
          · by_cases hq : q = t.length
            · have : leavesText l = t := by
                rw [hq, List.drop_length, List.append_nil] at hT; exact hT
              simp [doneB, hq, this]
            · have : leavesText l ≠ t := by
                intro h0
                rw [h0] at hT
                have := congrArg List.length hT
                simp at this
                omega
              simp [doneB, hq, this]
        · simp [doneB]
  · have : (if 24 < n then true else true) = true := by split <;> rfl
    rw [this]
    simp [lvLoop_bad, doneB]
end Go.Proofs.YtkgfidphcpklhaaDoor.Pl
namespace Go.Proofs.YtkgfidphcpklhaaDoor.Pl
set_option linter.unusedVariables false
def leafGet (l : List Lf) (n : Bs) : Option Bs := (l.find? fun x => x.1 == n).map (·.2)
def without (l : List Lf) (n : Bs) : List Lf := l.filter fun x => x.1 != n
theorem lf_at {l : List Lf} {k : Nat} (h : k < l.length) : lfAt l k = l[k] := by simp [lfAt, List.getD, List.getElem?_eq_getElem h]
theorem take_next (l : List Lf) (k : Nat) (h : k < l.length) : l.take (k + 1) = l.take k ++ [lfAt l k] := by
  rw [List.take_add_one, List.getElem?_eq_getElem h, lf_at h]; rfl
theorem get_next {l : List Lf} {k : Nat} {n : Bs} (h : k < l.length) (hx : leafGet (l.take k) n = none) (hne : (lfAt l k).1 ≠ n) : leafGet (l.take (k + 1)) n = none := by
  rw [take_next l k h]
  simp only [leafGet, Option.map_eq_none_iff] at hx ⊢
  rw [List.find?_append, hx]
  simp [hne]
theorem get_here {l : List Lf} {k : Nat} {n : Bs} (h : k < l.length) (hx : leafGet (l.take k) n = none) (he : (lfAt l k).1 = n) : leafGet l n = some (lfAt l k).2 := by
  have e : leafGet l n = leafGet (l.take (k + 1) ++ l.drop (k + 1)) n := by rw [List.take_append_drop]
  rw [e, take_next l k h]
  simp only [leafGet, Option.map_eq_none_iff] at hx ⊢
  rw [List.find?_append, List.find?_append, hx]
  simp [he]
theorem filter_next {f : Lf → Bool} {l : List Lf} {k : Nat} (h : k < l.length) : (l.take (k + 1)).filter f = (l.take k).filter f ++ (if f (lfAt l k) = true then [lfAt l k] else []) := by
  rw [take_next l k h, List.filter_append]
  congr 1
  cases hf : f (lfAt l k) <;> simp [hf]
theorem without_next {l : List Lf} {k : Nat} {n : Bs} (h : k < l.length) : without (l.take (k + 1)) n = without (l.take k) n ++ (if (lfAt l k).1 = n then [] else [lfAt l k]) := by
  unfold without
  rw [filter_next h]
  by_cases he : (lfAt l k).1 = n <;> simp [he]
def lowL (l : List Lf) (n : Bs) : List Lf := l.filter fun x => ltB x.1 n
def highL (l : List Lf) (n : Bs) : List Lf := l.filter fun x => !(ltB x.1 n || decide (x.1 = n))
def putL (l : List Lf) (n v : Bs) : List Lf := lowL (without l n) n ++ [(n, v)] ++ highL (without l n) n
/-- What the reference's LeafPut answers. -/
def putR (l : List Lf) (n v : Bs) : List Lf × Bool := bif leavesOk l && leavesOk (putL l n v) then (putL l n v, true) else (l, false)
/-- One step of the program's. -/
def insS (n v : Bs) (s : List Lf × Bool) (x : Lf) : List Lf × Bool :=
  ((bif !s.2 && !ltB x.1 n then s.1 ++ [(n, v)] else s.1) ++ (if x.1 = n then [] else [x]), s.2 || !ltB x.1 n)
def insF (l : List Lf) (n v : Bs) : List Lf × Bool := l.foldl (insS n v) ([], false)
def insL (l : List Lf) (n v : Bs) : List Lf := bif (insF l n v).2 then (insF l n v).1 else (insF l n v).1 ++ [(n, v)]
def insR (l : List Lf) (n v : Bs) : List Lf × Bool := bif leavesOk l && leavesOk (insL l n v) then (insL l n v, true) else (l, false)
theorem insF_next {l : List Lf} {k : Nat} {n v : Bs} (h : k < l.length) : insF (l.take (k + 1)) n v = insS n v (insF (l.take k) n v) (lfAt l k) := by
  rw [take_next l k h]; simp [insF]
theorem insF_len (n v : Bs) : ∀ (l : List Lf) (k : Nat), (insF (l.take k) n v).1.length ≤ 2 * k := by
  have : ∀ (l : List Lf) (s : List Lf × Bool), (l.foldl (insS n v) s).1.length ≤ s.1.length + 2 * l.length := by
    intro l
    induction l with
    | nil => intro s; simp
    | cons x l ih =>
      intro s
      have := ih (insS n v s x)
      have h2 : (insS n v s x).1.length ≤ s.1.length + 2 := by
        simp only [insS, List.length_append]
        have a : (bif !s.2 && !ltB x.1 n then s.1 ++ [(n, v)] else s.1).length ≤ s.1.length + 1 := by
          cases (!s.2 && !ltB x.1 n) <;> simp
        have b : (if x.1 = n then ([] : List Lf) else [x]).length ≤ 1 := by split <;> simp
        omega
      simp only [List.foldl_cons, List.length_cons]
      omega
  intro l k
  have h := this (l.take k) ([], false)
  simp only [List.length_nil, Nat.zero_add, List.length_take] at h
  have : min k l.length ≤ k := Nat.min_le_left _ _
  unfold insF
  omega
def dropR (l : List Lf) (n : Bs) : List Lf × Bool := bif (leafGet l n).isSome && leavesOk l then (without l n, true) else (l, false)
theorem lowL_next {l : List Lf} {k : Nat} {n : Bs} (h : k < l.length) : lowL (l.take (k + 1)) n = lowL (l.take k) n ++ (if ltB (lfAt l k).1 n = true then [lfAt l k] else []) := filter_next h
theorem highL_next {l : List Lf} {k : Nat} {n : Bs} (h : k < l.length) : highL (l.take (k + 1)) n = highL (l.take k) n ++ (if (!(ltB (lfAt l k).1 n || decide ((lfAt l k).1 = n))) = true then [lfAt l k] else []) := filter_next h
end Go.Proofs.YtkgfidphcpklhaaDoor.Pl
namespace Go.Proofs.YtkgfidphcpklhaaDoor.Pl
set_option linter.unusedVariables false
theorem lt_nil (a : Bs) : ltB a [] = false := by cases a <;> rfl
theorem lt_cons (a b : UInt8) (x y : Bs) : ltB (a :: x) (b :: y) = (decide (a < b) || (a == b && ltB x y)) := rfl
theorem lt_irrefl : ∀ a : Bs, ltB a a = false
  | [] => rfl
  | a :: x => by rw [lt_cons, lt_irrefl x]; simp
theorem lt_trans : ∀ {a b c : Bs}, ltB a b = true → ltB b c = true → ltB a c = true
  | _, [], _, h, _ => by rw [lt_nil] at h; cases h
  | _, _, [], _, h => by rw [lt_nil] at h; cases h
  | [], _ :: _, _ :: _, _, _ => rfl
  | a :: x, b :: y, c :: z, h, k => by
    rw [lt_cons] at h k ⊢
    simp only [Bool.or_eq_true, decide_eq_true_eq, Bool.and_eq_true, beq_iff_eq] at h k ⊢
    rcases h with h | ⟨rfl, h⟩
    · rcases k with k | ⟨rfl, k⟩
      · exact .inl (UInt8.lt_trans h k)
      · exact .inl h
    · rcases k with k | ⟨rfl, k⟩
      · exact .inl k
      · exact .inr ⟨rfl, lt_trans h k⟩
theorem lt_tri : ∀ {a b : Bs}, ltB a b = false → a ≠ b → ltB b a = true
  | [], [], _, h => absurd rfl h
  | [], _ :: _, h, _ => by cases h
  | _ :: _, [], _, _ => rfl
  | a :: x, b :: y, h, k => by
    rw [lt_cons] at h ⊢
    simp only [Bool.or_eq_false_iff, decide_eq_false_iff_not, Bool.and_eq_false_iff, beq_eq_false_iff_ne] at h
    simp only [Bool.or_eq_true, decide_eq_true_eq, Bool.and_eq_true, beq_iff_eq]
    by_cases e : a = b
    · subst e
      refine .inr ⟨rfl, lt_tri (h.2.resolve_left fun h => h rfl) fun e => k (by rw [e])⟩
    · left
      have h1 := h.1
      have h2 : a.toNat ≠ b.toNat := fun h => e (UInt8.toNat_inj.1 h)
      rw [UInt8.lt_iff_toNat_lt] at h1 ⊢
      omega
def Sorted (l : List Lf) : Prop := l.Pairwise fun a b => ltB a.1 b.1 = true
theorem ok_sorted {l : List Lf} (h : leavesOk l = true) : l.length ≤ 24 ∧ (∀ x ∈ l, nameOk x.1 = true ∧ valueOk x.2 = true) ∧ Sorted l := by
  obtain ⟨h1, h2⟩ := leavesOk_iff.1 h
  have st : ∀ k (hk : k < l.length), nameOk l[k].1 = true ∧ valueOk l[k].2 = true ∧ (k = 0 ∨ ltB (lfAt l (k - 1)).1 l[k].1 = true) := fun k hk => by
    have := h2 k hk
    rw [stepOk, lf_at hk] at this
    simpa [and_assoc] using this
  refine ⟨h1, fun x hx => ?_, ?_⟩
  · obtain ⟨k, hk, rfl⟩ := List.getElem_of_mem hx
    exact ⟨(st k hk).1, (st k hk).2.1⟩
  · rw [Sorted, List.pairwise_iff_getElem]
    intro i j hi hj hij
    have key : ∀ d, (h : i + d + 1 < l.length) → ltB l[i].1 l[i + d + 1].1 = true := by
      intro d
      induction d with
      | zero =>
        intro h
        have := ((st (i + 1) h).2.2).resolve_left (by omega)
        rwa [Nat.add_sub_cancel, lf_at hi] at this
      | succ d ih =>
        intro h
        have a := ih (by omega)
        have b := ((st (i + (d + 1) + 1) h).2.2).resolve_left (by omega)
        rw [Nat.add_sub_cancel, lf_at (show i + (d + 1) < l.length by omega)] at b
        exact lt_trans a b
    have := key (j - i - 1) (by omega)
    simpa [show i + (j - i - 1) + 1 = j by omega] using this
theorem sorted_ok {l : List Lf} (h1 : l.length ≤ 24) (h2 : ∀ x ∈ l, nameOk x.1 = true ∧ valueOk x.2 = true) (h3 : Sorted l) : leavesOk l = true := by
  refine leavesOk_iff.2 ⟨h1, fun k hk => ?_⟩
  rw [stepOk, lf_at hk, (h2 _ (List.getElem_mem hk)).1, (h2 _ (List.getElem_mem hk)).2]
  cases k with
  | zero => rfl
  | succ k =>
    rw [Nat.add_sub_cancel, lf_at (show k < l.length by omega)]
    have := (List.pairwise_iff_getElem.1 h3) k (k + 1) (by omega) hk (by omega)
    rw [this]; rfl
theorem Sorted.filter {l : List Lf} (h : Sorted l) (f : Lf → Bool) : Sorted (l.filter f) := List.Pairwise.filter _ h
theorem get_iff {l : List Lf} (h : Sorted l) {n w : Bs} : leafGet l n = some w ↔ (n, w) ∈ l := by
  induction l with
  | nil => simp [leafGet]
  | cons x l ih =>
    have hs := List.pairwise_cons.1 h
    by_cases he : x.1 = n
    · subst he
      have hno : (x.1, w) ∉ l := fun hm => by have := hs.1 _ hm; rw [lt_irrefl] at this; cases this
      simp only [leafGet, List.find?_cons, beq_self_eq_true, Option.map_some, List.mem_cons, hno, or_false]
      constructor
      · intro e; injection e with e; rw [← e]
      · intro e; rw [← e]
    · have e1 : leafGet (x :: l) n = leafGet l n := by
        have : (x.1 == n) = false := by simpa using he
        simp only [leafGet, List.find?_cons, this]
      rw [e1, ih hs.2, List.mem_cons]
      constructor
      · exact .inr
      · rintro (e | e)
        · exact absurd (by rw [← e]) he
        · exact e
theorem get_none {l : List Lf} {n : Bs} (h : ∀ x ∈ l, x.1 ≠ n) : leafGet l n = none := by
  rw [leafGet, Option.map_eq_none_iff, List.find?_eq_none]
  intro x hx
  simpa using h x hx
theorem without_mem {l : List Lf} {n : Bs} {x : Lf} : x ∈ without l n ↔ x ∈ l ∧ x.1 ≠ n := by simp [without]
theorem low_mem {l : List Lf} {n : Bs} {x : Lf} : x ∈ lowL l n ↔ x ∈ l ∧ ltB x.1 n = true := by simp [lowL]
theorem high_mem {l : List Lf} {n : Bs} {x : Lf} : x ∈ highL l n ↔ x ∈ l ∧ ltB x.1 n = false ∧ x.1 ≠ n := by simp [highL]
theorem put_mem {l : List Lf} {n v : Bs} {x : Lf} : x ∈ putL l n v ↔ x = (n, v) ∨ (x ∈ l ∧ x.1 ≠ n) := by
  rw [putL, List.mem_append, List.mem_append, low_mem, high_mem, without_mem, List.mem_singleton]
  constructor
  · rintro ((h | h) | h)
    · exact .inr h.1
    · exact .inl h
    · exact .inr h.1
  · rintro (h | h)
    · exact .inl (.inr h)
    · cases hl : ltB x.1 n
      · exact .inr ⟨h, rfl, h.2⟩
      · exact .inl (.inl ⟨h, rfl⟩)
theorem put_sorted {l : List Lf} {n v : Bs} (h : Sorted l) : Sorted (putL l n v) := by
  have hw : Sorted (without l n) := h.filter _
  rw [Sorted, putL, List.append_assoc, List.pairwise_append]
  refine ⟨hw.filter _, ?_, ?_⟩
  · rw [List.singleton_append, List.pairwise_cons]
    refine ⟨fun x hx => ?_, hw.filter _⟩
    obtain ⟨_, h1, h2⟩ := high_mem.1 hx
    exact lt_tri h1 h2
  · intro a ha b hb
    obtain ⟨_, h1⟩ := low_mem.1 ha
    rw [List.singleton_append, List.mem_cons] at hb
    rcases hb with rfl | hb
    · exact h1
    · obtain ⟨_, h2, h3⟩ := high_mem.1 hb
      exact lt_trans h1 (lt_tri h2 h3)
theorem put_ok {l : List Lf} {n v : Bs} (h : leavesOk l = true) (hl : l.length < 24) (hlen : (putL l n v).length ≤ l.length + 1) (hn : nameOk n = true) (hv : valueOk v = true) : leavesOk (putL l n v) = true := by
  obtain ⟨_, h2, h3⟩ := ok_sorted h
  refine sorted_ok (by omega) (fun x hx => ?_) (put_sorted h3)
  rcases put_mem.1 hx with rfl | hx
  · exact ⟨hn, hv⟩
  · exact h2 x hx.1
theorem insS_true {n v : Bs} : ∀ {l acc : List Lf}, l.foldl (insS n v) (acc, true) = (acc ++ without l n, true)
  | [], acc => by simp [without]
  | x :: l, acc => by
    rw [List.foldl_cons]
    have e : insS n v (acc, true) x = (acc ++ (if x.1 = n then [] else [x]), true) := by simp [insS]
    rw [e, insS_true]
    by_cases h : x.1 = n <;> simp [without, h]
theorem insS_false {n v : Bs} : ∀ {l acc : List Lf}, Sorted l → (bif (l.foldl (insS n v) (acc, false)).2 then (l.foldl (insS n v) (acc, false)).1 else (l.foldl (insS n v) (acc, false)).1 ++ [(n, v)]) = acc ++ putL l n v
  | [], acc, _ => by simp [putL, without, lowL, highL]
  | x :: l, acc, h => by
    obtain ⟨h1, h2⟩ := List.pairwise_cons.1 h
    rw [List.foldl_cons]
    cases hx : ltB x.1 n
    · have e : insS n v (acc, false) x = (acc ++ [(n, v)] ++ (if x.1 = n then [] else [x]), true) := by simp [insS, hx]
      rw [e, insS_true]
      have hge : ∀ y ∈ without (x :: l) n, ltB y.1 n = false := fun y hy => by
        rcases List.mem_cons.1 (without_mem.1 hy).1 with rfl | hm
        · exact hx
        · cases hc : ltB y.1 n
          · rfl
          · rw [lt_trans (h1 y hm) hc] at hx; cases hx
      have hne : ∀ y ∈ without (x :: l) n, y.1 ≠ n := fun y hy => (without_mem.1 hy).2
      have elow : lowL (without (x :: l) n) n = [] := by
        rw [lowL, List.filter_eq_nil_iff]
        intro y hy; rw [hge y hy]; simp
      have ehigh : highL (without (x :: l) n) n = without (x :: l) n := by
        rw [highL, List.filter_eq_self]
        intro y hy; rw [hge y hy]; simp [hne y hy]
      rw [putL, elow, ehigh, cond_true]
      by_cases he : x.1 = n <;> simp [without, he]
    · have hne : x.1 ≠ n := fun e => by rw [e, lt_irrefl] at hx; cases hx
      have e : insS n v (acc, false) x = (acc ++ [x], false) := by simp [insS, hx, hne]
      rw [e, insS_false (l := l) h2]
      have e2 : putL (x :: l) n v = x :: putL l n v := by simp [putL, without, lowL, highL, hx, hne]
      rw [e2]; simp
theorem ins_put {l : List Lf} {n v : Bs} (h : Sorted l) : insL l n v = putL l n v := by
  have := insS_false (n := n) (v := v) (acc := []) h
  rw [List.nil_append] at this
  exact this
theorem without_ok {l : List Lf} {n : Bs} (h : leavesOk l = true) : leavesOk (without l n) = true := by
  obtain ⟨h1, h2, h3⟩ := ok_sorted h
  exact sorted_ok (Nat.le_trans (List.length_filter_le _ _) h1) (fun x hx => h2 x (without_mem.1 hx).1) (h3.filter _)
theorem without_put_len (l : List Lf) (n v : Bs) : (without (putL l n v) n).length + 1 = (putL l n v).length := by
  have key : ∀ r : List Lf, (∀ x ∈ r, x.1 ≠ n) → without r n = r := fun r h => by
    rw [without, List.filter_eq_self]; intro x hx; simpa using h x hx
  have hl := key (lowL (without l n) n) fun x hx => (without_mem.1 (low_mem.1 hx).1).2
  have hh := key (highL (without l n) n) fun x hx => (without_mem.1 (high_mem.1 hx).1).2
  have e : without (putL l n v) n = without (lowL (without l n) n) n ++ without (highL (without l n) n) n := by
    simp [putL, without]
  rw [e, hl, hh, putL]
  simp; omega
/-- Entries are read as they were written. -/
theorem lvLoop_dec {t : Bs} : ∀ {l : List Lf} {p : Nat} {r : Bs}, (∀ x ∈ l, x.1.length ≤ 20000 ∧ x.2.length ≤ 20000) → t.drop p = l.flatMap lfText ++ r → lvLoop (shortOf t) l.length p false = (l, p + (l.flatMap lfText).length, false)
  | [], p, r, _, _ => by simp [lvLoop]
  | x :: l, p, r, hs, h => by
    have h0 : t.drop p = shortText x.1 ++ (shortText x.2 ++ (l.flatMap lfText ++ r)) := by rw [h]; simp [lfText]
    have hx := hs x (by simp)
    have e1 := shortOf_dec hx.1 h0 false
    have hd1 : t.drop (p + (shortText x.1).length) = shortText x.2 ++ (l.flatMap lfText ++ r) := by
      rw [← List.drop_drop, h0, List.drop_left]
    have e2 := shortOf_dec hx.2 hd1 false
    have hd2 : t.drop (p + (shortText x.1).length + (shortText x.2).length) = l.flatMap lfText ++ r := by
      rw [← List.drop_drop, hd1, List.drop_left]
    have ih := lvLoop_dec (fun y hy => hs y (by simp [hy])) hd2
    rw [List.length_cons, lvLoop, e1]
    simp only [e2, ih]
    simp [lfText]
    omega
theorem nameOk_len {s : Bs} (h : nameOk s = true) : s.length ≤ 12 := by
  simp [nameOk, allN] at h; exact h.1.2
theorem valueOk_len {s : Bs} (h : valueOk s = true) : s.length ≤ 12 := by
  simp [valueOk, allN] at h; exact h.1.2
theorem readLv_text {l : List Lf} (h : leavesOk l = true) : readLvI (leavesText l) = some l := by
  obtain ⟨h1, h2, _⟩ := ok_sorted h
  have hN : numOf (leavesText l) 0 false = (l.length, 0 + (varText l.length).length, false) := numOf_dec (by omega) (r := l.flatMap lfText) (by rw [List.drop_zero]; rfl) false
  have hL : lvLoop (shortOf (leavesText l)) l.length (0 + (varText l.length).length) false = (l, 0 + (varText l.length).length + (l.flatMap lfText).length, false) :=
    lvLoop_dec (r := []) (fun x hx => by have := nameOk_len (h2 x hx).1; have := valueOk_len (h2 x hx).2; omega) (by rw [leavesText, Nat.zero_add, List.drop_left]; simp)
  have hno : ¬ 24 < l.length := by omega
  simp only [readLvI, leavesI, hN, if_neg hno, hL, h]
  have : (leavesText l).length = (varText l.length).length + (l.flatMap lfText).length := by rw [leavesText, List.length_append]
  simp [doneB, this]
end Go.Proofs.YtkgfidphcpklhaaDoor.Pl
namespace Go.Proofs.YtkgfidphcpklhaaDoor.Pl
set_option linter.unusedVariables false
/-! ### entries from any place on -/
theorem leavesI_enc {t : Bs} {p q : Nat} {b : Bool} {l : List Lf} (h : leavesI t p b = (l, q, false)) (hp : p ≤ t.length) : b = false ∧ leavesOk l = true ∧ q ≤ t.length ∧ t.drop p = leavesText l ++ t.drop q := by
  unfold leavesI at h
  rcases hN : numOf t p b with ⟨n, p1, b1⟩
  have hle := (numOf_le (t := t) (p := p) (bad := b) hp).1
  rw [hN] at h hle
  simp only at h hle
  rcases hL : lvLoop (shortOf t) n p1 (if 24 < n then true else b1) with ⟨l', q', b'⟩
  rw [hL] at h
  simp only [Prod.mk.injEq, Bool.or_eq_false_iff] at h
  obtain ⟨rfl, rfl, rfl, ho⟩ := h
  have ho : leavesOk l' = true := by simpa using ho
  by_cases h24 : 24 < n
  · rw [if_pos h24, lvLoop_bad] at hL; cases hL
  · rw [if_neg h24] at hL
    cases b1 with
    | true => rw [lvLoop_bad] at hL; cases hL
    | false =>
      obtain ⟨rfl, _, e1, _⟩ := numOf_enc hN
      obtain ⟨e2, e3, e4⟩ := lvLoop_enc hL hle
      exact ⟨rfl, ho, e3, by rw [e1, e4, leavesText, e2, List.append_assoc]⟩
theorem leavesI_dec {t : Bs} {p : Nat} {l : List Lf} {r : Bs} (ho : leavesOk l = true) (h : t.drop p = leavesText l ++ r) : leavesI t p false = (l, p + (leavesText l).length, false) := by
  obtain ⟨h1, h2, _⟩ := ok_sorted ho
  have h0 : t.drop p = varText l.length ++ (l.flatMap lfText ++ r) := by rw [h, leavesText, List.append_assoc]
  have hN := numOf_dec (by omega) h0 false
  have hd : t.drop (p + (varText l.length).length) = l.flatMap lfText ++ r := by rw [← List.drop_drop, h0, List.drop_left]
  have hL := lvLoop_dec (fun x hx => by have := nameOk_len (h2 x hx).1; have := valueOk_len (h2 x hx).2; omega) hd
  have hno : ¬ 24 < l.length := by omega
  simp only [leavesI, hN, if_neg hno, hL, ho]
  simp [leavesText, Nat.add_assoc]
theorem leavesS_dec {t : Bs} {p : Nat} {l : List Lf} {r : Bs} (ho : leavesOk l = true) (h : t.drop p = leavesText l ++ r) : leavesS t p false = (l, p + (leavesText l).length, false) := by
  obtain ⟨h1, h2, _⟩ := ok_sorted ho
  have h0 : t.drop p = varText l.length ++ (l.flatMap lfText ++ r) := by rw [h, leavesText, List.append_assoc]
  have hN := numOf_dec (by omega) h0 false
  have hd : t.drop (p + (varText l.length).length) = l.flatMap lfText ++ r := by rw [← List.drop_drop, h0, List.drop_left]
  have hL := lvLoop_dec (fun x hx => by have := nameOk_len (h2 x hx).1; have := valueOk_len (h2 x hx).2; omega) hd
  have hmin : min l.length 30 = l.length := by omega
  simp only [leavesS, numS_good, hN, hmin]
  rcases lvLoop_agree t l.length (p + (varText l.length).length) false with hb | he
  · rw [hL] at hb; cases hb.1
  · rw [← he, hL]; simp [leavesText, Nat.add_assoc]

/-! ### hashes -/
def hashL (t : Bs) (w : Nat) : Nat → Nat → Bool → List Bs × Nat × Bool
  | 0, p, b => ([], p, b)
  | n + 1, p, b => ((bytesOf t p b w).1 :: (hashL t w n (bytesOf t p b w).2.1 (bytesOf t p b w).2.2).1, (hashL t w n (bytesOf t p b w).2.1 (bytesOf t p b w).2.2).2)
def sideL (t : Bs) (w : Int) : Nat → Nat → Bool → List Bs × Nat × Bool
  | 0, p, b => ([], p, b)
  | _ + 1, p, true => ([], p, true)
  | n + 1, p, false => ((takeOf t p false w).1 :: (sideL t w n (takeOf t p false w).2.1 (takeOf t p false w).2.2).1, (sideL t w n (takeOf t p false w).2.1 (takeOf t p false w).2.2).2)
theorem bytesOf_bad (t : Bs) (p w : Nat) : bytesOf t p true w = ([], p, true) := by simp [bytesOf]
theorem hashL_bad (t : Bs) (w : Nat) : ∀ (n p : Nat), (hashL t w n p true).2.2 = true
  | 0, p => rfl
  | n + 1, p => by simp only [hashL, bytesOf_bad]; exact hashL_bad t w n p
theorem hashL_enc {t : Bs} {w : Nat} : ∀ {n p q : Nat} {b : Bool} {s : List Bs}, hashL t w n p b = (s, q, false) → p ≤ t.length → b = false ∧ s.length = n ∧ (∀ x ∈ s, x.length = w) ∧ q ≤ t.length ∧ t.drop p = s.flatten ++ t.drop q
  | 0, p, q, b, s, h, hp => by
    simp only [hashL, Prod.mk.injEq] at h
    obtain ⟨rfl, rfl, rfl⟩ := h
    exact ⟨rfl, rfl, fun x hx => absurd hx (List.not_mem_nil), hp, by simp⟩
  | n + 1, p, q, b, s, h, hp => by
    by_cases hc : b = true ∨ t.length - p < w
    · have e : bytesOf t p b w = ([], p, true) := by rw [bytesOf, if_pos hc]
      simp only [hashL, e] at h
      have := hashL_bad t w n p
      have h2 := congrArg (fun x => x.2.2) h
      simp only at h2
      rw [this] at h2; cases h2
    · have e : bytesOf t p b w = ((t.drop p).take w, p + w, b) := by rw [bytesOf, if_neg hc]
      have hb : b = false := by cases b <;> simp at hc ⊢
      have hw : ¬ t.length - p < w := fun h => hc (.inr h)
      simp only [hashL, e] at h
      rcases hR : hashL t w n (p + w) b with ⟨s', q', b'⟩
      rw [hR] at h
      simp only [Prod.mk.injEq] at h
      obtain ⟨rfl, rfl, rfl⟩ := h
      obtain ⟨_, i2, i3, i4, i5⟩ := hashL_enc hR (by omega)
      refine ⟨hb, by simp [i2], fun x hx => ?_, i4, ?_⟩
      · rcases List.mem_cons.1 hx with rfl | hx
        · simp; omega
        · exact i3 x hx
      · rw [List.flatten_cons, List.append_assoc, ← i5, ← List.drop_drop, List.take_append_drop]
theorem hashL_dec {t : Bs} {w : Nat} : ∀ {s : List Bs} {p : Nat} {r : Bs}, (∀ x ∈ s, x.length = w) → t.drop p = s.flatten ++ r → hashL t w s.length p false = (s, p + s.flatten.length, false)
  | [], p, r, _, _ => by simp [hashL]
  | x :: s, p, r, hs, h => by
    have hx := hs x (by simp)
    have hl := congrArg List.length h
    simp at hl
    have e : bytesOf t p false w = (x, p + w, false) := by
      rw [bytesOf, if_neg (by simp; omega), h, List.flatten_cons, List.append_assoc, ← hx, List.take_left]
    have hd : t.drop (p + w) = s.flatten ++ r := by rw [← List.drop_drop, h, List.flatten_cons, List.append_assoc, ← hx, List.drop_left]
    have ih := hashL_dec (fun y hy => hs y (by simp [hy])) hd
    rw [List.length_cons, hashL, e]
    simp only [ih]
    simp [hx]; omega
theorem sideL_dec {t : Bs} {w : Nat} : ∀ {s : List Bs} {p : Nat} {r : Bs}, (∀ x ∈ s, x.length = w) → t.drop p = s.flatten ++ r → sideL t (w : Int) s.length p false = (s, p + s.flatten.length, false)
  | [], p, r, _, _ => by simp [sideL]
  | x :: s, p, r, hs, h => by
    have hx := hs x (by simp)
    have hl := congrArg List.length h
    simp at hl
    have e : takeOf t p false (w : Int) = (x, p + w, false) := by
      rw [takeOf, if_neg (by omega), Int.toNat_natCast, bytesOf, if_neg (by simp; omega), h, List.flatten_cons, List.append_assoc, ← hx, List.take_left]
    have hd : t.drop (p + w) = s.flatten ++ r := by rw [← List.drop_drop, h, List.flatten_cons, List.append_assoc, ← hx, List.drop_left]
    have ih := sideL_dec (fun y hy => hs y (by simp [hy])) hd
    rw [List.length_cons, sideL, e]
    simp only [ih]
    simp [hx]; omega

/-! ### proofs -/
def proofText (l : List Lf) (s : List Bs) : Bs := leavesText l ++ (varText s.length ++ s.flatten)
def wideB (s : List Bs) (w : Int) : Bool := s.all (fun x => decide ((x.length : Int) = w)) && inB w 1 32
def proofOkB (l : List Lf) (s : List Bs) (w : Int) : Bool := leavesOk l && decide (s.length ≤ 8) && wideB s w
def readPfI (t : Bs) (w : Nat) : Option (List Lf × List Bs) :=
  let A := leavesI t 0 false
  let B := numOf t A.2.1 A.2.2
  if 8 < B.1 then none else
    let C := hashL t w B.1 B.2.1 B.2.2
    if doneB C.2.2 C.2.1 t.length = true then some (A.1, C.1) else none
def readPfS (t : Bs) (w : Int) : Option (List Lf × List Bs) :=
  let A := leavesS t 0 false
  let B := numS t A.2.1 A.2.2
  let C := sideL t w (min B.1 10) B.2.1 B.2.2
  if C.2.2 = false ∧ proofOkB A.1 C.1 w = true ∧ proofText A.1 C.1 = t then some (A.1, C.1) else none
theorem proofOk_iff {l : List Lf} {s : List Bs} {w : Int} : proofOkB l s w = true ↔ leavesOk l = true ∧ s.length ≤ 8 ∧ (∀ x ∈ s, (x.length : Int) = w) ∧ 1 ≤ w ∧ w ≤ 32 := by
  simp [proofOkB, wideB, inB, and_assoc]
theorem pfI_iff {t : Bs} {w : Nat} (hw : 1 ≤ w ∧ w ≤ 32) {l : List Lf} {s : List Bs} : readPfI t w = some (l, s) ↔ proofOkB l s w = true ∧ t = proofText l s := by
  rw [proofOk_iff]
  constructor
  · intro h
    rcases hA : leavesI t 0 false with ⟨l', p1, b1⟩
    have hp1 := leavesI_le (t := t) (p := 0) (b := false) (by omega)
    rcases hB : numOf t p1 b1 with ⟨n, p2, b2⟩
    rcases hC : hashL t w n p2 b2 with ⟨s', p3, b3⟩
    rw [hA] at hp1
    simp only at hp1
    have hp2 := (numOf_le (t := t) (p := p1) (bad := b1) hp1).1
    rw [hB] at hp2
    simp only at hp2
    simp only [readPfI, hA, hB, hC] at h
    split at h
    · cases h
    · rename_i h8
      split at h
      · rename_i hd
        injection h with h; injection h with e1 e2; subst e1; subst e2
        simp only [doneB, Bool.and_eq_true, Bool.not_eq_true', beq_iff_eq] at hd
        obtain ⟨rfl, rfl⟩ := hd
        obtain ⟨rfl, c2, c3, c4, c5⟩ := hashL_enc hC hp2
        obtain ⟨rfl, _, d1, _⟩ := numOf_enc hB
        obtain ⟨_, a2, a3, a4⟩ := leavesI_enc hA (by omega)
        refine ⟨⟨a2, by omega, fun x hx => by rw [c3 x hx], by omega, by omega⟩, ?_⟩
        rw [List.drop_zero] at a4
        rw [List.drop_length, List.append_nil] at c5
        rw [a4, d1, c5, c2.symm]; rfl
      · cases h
  · rintro ⟨⟨h1, h2, h3, h4, h5⟩, ht⟩
    have hA := leavesI_dec (t := t) (p := 0) h1 (r := varText s.length ++ s.flatten) (by rw [List.drop_zero, ht]; rfl)
    have hd1 : t.drop (0 + (leavesText l).length) = varText s.length ++ s.flatten := by rw [ht, proofText, Nat.zero_add, List.drop_left]
    have hB := numOf_dec (by omega) hd1 false
    have hd2 : t.drop (0 + (leavesText l).length + (varText s.length).length) = s.flatten ++ [] := by rw [← List.drop_drop, hd1, List.drop_left, List.append_nil]
    have hC := hashL_dec (w := w) (fun x hx => by have := h3 x hx; omega) hd2
    have hl : t.length = (leavesText l).length + (varText s.length).length + s.flatten.length := by rw [ht, proofText]; simp [Nat.add_assoc]
    simp only [readPfI, hA, hB, hC, if_neg (show ¬ 8 < s.length by omega)]
    rw [if_pos]
    rw [hl]; simp [doneB]
theorem pfS_iff {t : Bs} {w : Int} {l : List Lf} {s : List Bs} : readPfS t w = some (l, s) ↔ proofOkB l s w = true ∧ t = proofText l s := by
  constructor
  · intro h
    simp only [readPfS] at h
    split at h
    · rename_i hc
      injection h with h; injection h with e1 e2
      rw [e1, e2] at hc
      exact ⟨hc.2.1, hc.2.2.symm⟩
    · cases h
  · rintro ⟨ho, ht⟩
    obtain ⟨h1, h2, h3, h4, h5⟩ := proofOk_iff.1 ho
    obtain ⟨wn, rfl⟩ : ∃ n : Nat, w = n := ⟨w.toNat, by omega⟩
    have hA := leavesS_dec (t := t) (p := 0) h1 (r := varText s.length ++ s.flatten) (by rw [List.drop_zero, ht]; rfl)
    have hd1 : t.drop (0 + (leavesText l).length) = varText s.length ++ s.flatten := by rw [ht, proofText, Nat.zero_add, List.drop_left]
    have hB := numOf_dec (by omega) hd1 false
    have hd2 : t.drop (0 + (leavesText l).length + (varText s.length).length) = s.flatten ++ [] := by rw [← List.drop_drop, hd1, List.drop_left, List.append_nil]
    have hC := sideL_dec (w := wn) (fun x hx => by have := h3 x hx; omega) hd2
    have hmin : min s.length 10 = s.length := by omega
    simp only [readPfS, hA, numS_good, hB, hmin, hC]
    rw [if_pos ⟨trivial, ho, ht.symm⟩]
theorem readPf_agree (t : Bs) {w : Nat} (hw : 1 ≤ w ∧ w ≤ 32) : readPfI t w = readPfS t w := by
  have key : ∀ x : List Lf × List Bs, readPfI t w = some x ↔ readPfS t w = some x := fun x => by
    obtain ⟨l, s⟩ := x
    rw [pfI_iff hw, pfS_iff]
  cases h : readPfI t w with
  | some x => exact ((key x).1 h).symm
  | none =>
    cases h2 : readPfS t w with
    | none => rfl
    | some y => rw [(key y).2 h2] at h; cases h
theorem readPfS_wide {t : Bs} {w : Int} (hw : inB w 1 32 = false) : readPfS t w = none := by
  cases h : readPfS t w with
  | none => rfl
  | some x =>
    obtain ⟨l, s⟩ := x
    have := (pfS_iff.1 h).1
    rw [proofOkB, wideB, hw] at this
    simp at this
end Go.Proofs.YtkgfidphcpklhaaDoor.Pl
