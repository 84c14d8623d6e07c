/- Plain: the checksum. Plain: what is read is what was written, and the other way round. Plain: letters. Plain: entries. Entries, no program in sight: both readers agree. Plain: an entry is looked up, put, dropped. Plain: what holds of an entry that is put, and of one that is dropped; entries are read as they were written. Plain: proofs are read as they were written, by the program and by the reference alike. Plain: words of 32 bits, and the digest as the reference reckons it. Plain: the digest as the program reckons it is the reference's. Plain: the tree of hashes, and the way up from a bucket to the root. Plain: changes are applied one by one; the last change of a name counts. -/
import Derived.Test.YtfjbinbpgdiafaaGreatDoorPlain
import Derived.Laws.BitsAllLaws
import Derived.KernelRfl
namespace Go.Proofs.YtfjbinbpgdiafaaGreatDoor.Pl
set_option linter.unusedVariables false
set_option linter.unusedSimpArgs false
set_option linter.unusedSectionVars false
def z9K (s : Nat) : Nat := if s % 2 = 1 then (s / 2) ^^^ 3558460437 else s / 2
def z4e : Nat → Nat → Nat
 | 0, s => s
 | n + 1, s => z9K (z4e n s)
def z20 (s : Nat) (l : Bs) : Nat := l.foldl (fun s b => z4e 8 (s ^^^ b.toNat)) s
def z2h (l : Bs) : Nat := z20 4294967295 l
theorem z6Z {a b : Nat} (ha : (a : Int) ≤ 4294967295) (hb : (b : Int) ≤ 4294967295) : ((a ^^^ b : Nat) : Int) ≤ 4294967295 := by
 have : a ^^^ b < 2 ^ 32 := Nat.xor_lt_two_pow (by omega) (by omega)
 omega
theorem zf1 {a : Nat} (ha : (a : Int) ≤ 4294967295) : ((z9K a : Nat) : Int) ≤ 4294967295 := by
 unfold z9K; split
 ·exact z6Z (by omega) (by omega)
 ·omega
theorem zb4 {a : Nat} (ha : (a : Int) ≤ 4294967295) : ∀ n, ((z4e n a : Nat) : Int) ≤ 4294967295
 | 0 => ha
 | n + 1 => zf1 (zb4 ha n)
theorem z4S (s : Nat) (l : Bs) (b : UInt8) : z20 s (l ++ [b]) = z4e 8 (z20 s l ^^^ b.toNat) := by simp [z20]
theorem zbY {s : Nat} (hs : (s : Int) ≤ 4294967295) : ∀ l : Bs, ((z20 s l : Nat) : Int) ≤ 4294967295 := by
 intro l
 unfold z20
 induction l generalizing s with
 | nil => exact hs
 | cons b l ih =>
   rw [List.foldl_cons]
   refine ih (zb4 (z6Z hs ?_) 8)
   have := b.toNat_lt; omega
theorem zb5 (l : Bs) : ((z2h l : Nat) : Int) ≤ 4294967295 := zbY (by omega) l
theorem z4T (s : ByteArray) (k : Nat) (h : k < s.size) : ∃ b : UInt8, b.toNat = nb s k ∧ s.data.toList.take (k + 1) = s.data.toList.take k ++ [b] := by
 obtain ⟨b, hb, hd⟩ := z9l s k h
 refine ⟨b, hb, ?_⟩
 rw [List.take_add, hd]; rfl
theorem xr32 {a b : Nat} (ha : (a : Int) ≤ 4294967295) (hb : (b : Int) ≤ 4294967295) : bits .xor .u32 (a : Int) (b : Int) = ((a ^^^ b : Nat) : Int) := u32_xor_nat a b (by omega) (by omega)
theorem z8y {a : Nat} (ha : (a : Int) ≤ 4294967295) : bits .xor .u32 ((a : Int) / 2) 3558460437 = (((a / 2) ^^^ 3558460437 : Nat) : Int) := by
 have := xr32 (a := a / 2) (b := 3558460437) (by omega) (by omega)
 rw [← this]
 congr 1
theorem zb6 {y : Nat} (hy : (y : Int) ≤ 4294967295) : bits .and .u32 (y : Int) 1 = ((y % 2 : Nat) : Int) := by
 have := u32_and_nat y 1 (by omega) (by omega)
 rw [← nat_mask1, ← this]; rfl
def z28 (x : Nat) : Bs := [UInt8.ofNat (x / 16777216), UInt8.ofNat (x / 65536), UInt8.ofNat (x / 256), UInt8.ofNat x]
theorem z39 (x : Nat) : (z28 x).length = 4 := rfl
def zfX (t : Bs) : Bs := t ++ z28 (z2h t)
def zf2 (t : Bs) : Option Bs :=
 if 4 ≤ t.length ∧ t.length ≤ 20004 ∧ t.drop (t.length - 4) = z28 (z2h (t.take (t.length - 4))) then some (t.take (t.length - 4)) else none
end Go.Proofs.YtfjbinbpgdiafaaGreatDoor.Pl
namespace Go.Proofs.YtfjbinbpgdiafaaGreatDoor.Pl
set_option linter.unusedVariables false
set_option linter.unusedSimpArgs false
set_option linter.unusedSectionVars false
theorem zb7 : ∀ (f k n : Nat) (r : Bs) (m c : Nat), rvGo f k n r = some (m, c) →
 ∃ (ds : Bs) (x : UInt8) (r' : Bs), r = ds ++ x :: r' ∧ (∀ d ∈ ds, 128 ≤ d.toNat) ∧ x.toNat < 128 ∧ c = k + ds.length + 1 ∧ m = n + val (ds ++ [x]) * 128 ^ k ∧ (x.toNat ≠ 0 ∨ (ds = [] ∧ k = 0))
 | 0, _, _, _, _, _, h => by cases h
 | _ + 1, _, _, [], _, _, h => by cases h
 | f + 1, k, n, x :: r, m, c, h => by
   rw [rvGo] at h
   split at h
   ·rename_i hx
    split at h
    ·cases h
    ·rename_i hb
     injection h with h; injection h with h1 h2
     refine ⟨[], x, r, rfl, by simp, hx, by simp; omega, ?_, ?_⟩
     ·have : val ([] ++ [x]) = x.toNat := by simp [val]; omega
      rw [this, z4v, h1]
     ·by_cases h0 : x.toNat = 0
      ·right; refine ⟨rfl, ?_⟩; omega
      ·exact .inl h0
   ·rename_i hx
    obtain ⟨ds, y, r', e, hd, hy, hc, hm, hz⟩ := zb7 f (k + 1) _ r m c h
    refine ⟨x :: ds, y, r', by rw [e]; rfl, ?_, hy, by rw [List.length_cons]; omega, ?_, ?_⟩
    ·intro d hd'
     rcases List.mem_cons.1 hd' with rfl | hd'
     ·omega
     ·exact hd d hd'
    ·rw [hm, List.cons_append, val, ← z4v, Nat.pow_succ]
     have e1 : val (ds ++ [y]) * (128 ^ k * 128) = 128 * val (ds ++ [y]) * 128 ^ k := by rw [Nat.mul_comm (128 ^ k) 128, ← Nat.mul_assoc, Nat.mul_comm (val _) 128]
     rw [e1, Nat.add_mul, Nat.add_assoc]
    ·rcases hz with hz | ⟨_, hz⟩
     ·exact .inl hz
     ·omega
theorem z3Q {t : Bs} {p n q : Nat} (h : z0u t p = some (n, q)) : t.drop p = z03 n ++ t.drop q ∧ q = p + (z03 n).length := by
 have hb := z0V h
 unfold z0u at h
 rcases hg : rvGo 5 0 0 (t.drop p) with _ | ⟨m, c⟩
 ·rw [hg] at h; cases h
 ·rw [hg] at h
  simp at h
  obtain ⟨rfl, rfl⟩ := h
  obtain ⟨ds, x, r', e, hd, hx, hc, hm, hz⟩ := zb7 _ _ _ _ _ _ hg
  simp at hm hc
  have hv : z03 m = ds ++ [x] := by
   rw [hm]
   refine (z3F x hx ds hd).2 ?_
   rcases hz with hz | ⟨hz, _⟩
   ·exact .inl hz
   ·exact .inr hz
  have hl : (z03 m).length = c := by rw [hv]; simp; omega
  refine ⟨?_, by rw [hl]⟩
  rw [← List.drop_drop, e, hv]
  have : (ds ++ x :: r').drop c = r' := by
   rw [hc]
   have e2 : ds ++ x :: r' = (ds ++ [x]) ++ r' := by simp
   rw [e2]
   have : ds.length + 1 = (ds ++ [x]).length := by simp
   rw [this, List.drop_left]
  rw [this]; simp
theorem z7y : ∀ (n : Nat), ∃ (ds : Bs) (x : UInt8), z03 n = ds ++ [x] ∧ (∀ d ∈ ds, 128 ≤ d.toNat) ∧ x.toNat < 128 ∧ (x.toNat ≠ 0 ∨ ds = []) ∧ val (ds ++ [x]) = n := by
 intro n
 induction n using Nat.strongRecOn with
 | ind n ih =>
   by_cases hn : n ≤ 127
   ·refine ⟨[], UInt8.ofNat n, z1k hn, by simp, ?_, .inr rfl, ?_⟩
    ·simp; omega
    ·simp [val]; omega
   ·obtain ⟨ds, x, e, hd, hx, hz, hv⟩ := ih (n / 128) (by omega)
    have ht : (UInt8.ofNat (128 + n % 128)).toNat = 128 + n % 128 := by simp; omega
    refine ⟨UInt8.ofNat (128 + n % 128) :: ds, x, by rw [z2c hn, e]; rfl, ?_, hx, ?_, ?_⟩
    ·intro d hd'
     rcases List.mem_cons.1 hd' with rfl | hd'
     ·omega
     ·exact hd d hd'
    ·rcases hz with hz | hz
     ·exact .inl hz
     ·subst hz
      left
      intro h0
      simp [val, h0] at hv
      omega
    ·rw [List.cons_append, val, hv, ht]; omega
theorem zb8 : ∀ (ds : Bs) (x : UInt8) (r : Bs) (f k n : Nat), (∀ d ∈ ds, 128 ≤ d.toNat) → x.toNat < 128 → (x.toNat ≠ 0 ∨ (ds = [] ∧ k = 0)) → ds.length < f → n + val (ds ++ [x]) * 128 ^ k ≤ 1000000000 →
 rvGo f k n (ds ++ x :: r) = some (n + val (ds ++ [x]) * 128 ^ k, k + ds.length + 1)
 | [], x, r, f + 1, k, n, _, hx, hz, _, hm => by
   have hv : val ([] ++ [x]) = x.toNat := by simp [val]; omega
   rw [hv, z4v] at hm ⊢
   exact zcz f k n x r hx (by rcases hz with h | ⟨_, h⟩ <;> omega) hm
 | d :: ds, x, r, f + 1, k, n, hd, hx, hz, hf, hm => by
   have hd1 : 128 ≤ d.toNat := hd d (by simp)
   have hz1 : x.toNat ≠ 0 := by
    rcases hz with h | ⟨h, _⟩
    ·exact h
    ·cases h
   have e : n + d.toNat % 128 * 2 ^ (7 * k) + val (ds ++ [x]) * 128 ^ (k + 1) = n + val (d :: ds ++ [x]) * 128 ^ k := by
    rw [List.cons_append, val, ← z4v, Nat.pow_succ]
    have e1 : val (ds ++ [x]) * (128 ^ k * 128) = 128 * val (ds ++ [x]) * 128 ^ k := by rw [Nat.mul_comm (128 ^ k) 128, ← Nat.mul_assoc, Nat.mul_comm (val _) 128]
    rw [e1, Nat.add_mul, Nat.add_assoc]
   rw [List.cons_append, z5l _ _ _ _ _ (by omega), zb8 ds x r f (k + 1) _ (fun y hy => hd y (by simp [hy])) hx (.inl hz1) (by simpa using hf) (by rw [e]; exact hm), e]
   simp; omega
theorem z3R {t : Bs} {p n : Nat} {r : Bs} (hn : n ≤ 1000000000) (h : t.drop p = z03 n ++ r) : z0u t p = some (n, p + (z03 n).length) := by
 obtain ⟨ds, x, e, hd, hx, hz, hv⟩ := z7y n
 have hl := z0N (n := n) (by omega)
 rw [e] at hl
 simp at hl
 have hg := zb8 ds x r 5 0 0 hd hx (by rcases hz with h | h <;> simp [h]) (by omega) (by rw [hv]; omega)
 rw [z0u, h, e, List.append_assoc]
 show (rvGo 5 0 0 (ds ++ x :: r)).map _ = _
 rw [hg, hv]
 simp
theorem z7z {t : Bs} {p q : Nat} {l : Bs} (h : z0J t p = some (l, q)) : t.drop p = z0m l ++ t.drop q ∧ q = p + (z0m l).length := by
 unfold z0J at h
 rcases hr : z0u t p with _ | ⟨n, c⟩
 ·rw [hr] at h; cases h
 ·have hb := z0V hr
  obtain ⟨e1, e2⟩ := z3Q hr
  rw [hr] at h
  simp only at h
  split at h
  ·rename_i hc
   injection h with h; injection h with h1 h2; subst h1; subst h2
   have hl : ((t.drop c).take n).length = n := by simp; omega
   refine ⟨?_, by rw [z0m, List.length_append, hl]; omega⟩
   rw [z0m, hl, e1, List.append_assoc, ← List.drop_drop, List.take_append_drop]
  ·cases h
theorem z7A {t : Bs} {p : Nat} {l r : Bs} (hl : l.length ≤ 20000) (h : t.drop p = z0m l ++ r) : z0J t p = some (l, p + (z0m l).length) := by
 have hr : z0u t p = some (l.length, p + (z03 l.length).length) := z3R (r := l ++ r) (by omega) (by rw [h, z0m, List.append_assoc])
 have hd : t.drop (p + (z03 l.length).length) = l ++ r := by rw [← List.drop_drop, h, z0m, List.append_assoc, List.drop_left]
 have hlen := congrArg List.length hd
 simp at hlen
 rw [z0J, hr]
 simp only
 rw [if_pos ⟨hl, by omega⟩, hd, List.take_left, z0m, List.length_append]
 simp; omega
def numS (t : Bs) (p : Nat) (bad : Bool) : Nat × Nat × Bool := if bad = true then (0, p, true) else z1J t p false
def z5P (t : Bs) (p : Nat) (bad : Bool) : Bs × Nat × Bool := if bad = true then ([], p, true) else z0T t p false
theorem z3S (t : Bs) (p : Nat) : (z0T t p true).2.2 = true := by unfold z0T; split <;> rfl
theorem zdj (t : Bs) (p : Nat) : numS t p false = z1J t p false := rfl
theorem z5Q (t : Bs) (p : Nat) : z5P t p false = z0T t p false := rfl
theorem zdk {t : Bs} {p n q : Nat} {b : Bool} (h : z1J t p b = (n, q, false)) : b = false ∧ n ≤ 1000000000 ∧ t.drop p = z03 n ++ t.drop q ∧ q = p + (z03 n).length := by
 unfold z1J at h
 rcases hr : z0u t p with _ | ⟨m, c⟩
 ·rw [hr] at h; simp at h
 ·rw [hr] at h
  simp at h
  obtain ⟨rfl, rfl, rfl⟩ := h
  exact ⟨rfl, (z0V hr).2.2.2, z3Q hr⟩
theorem z5R {t : Bs} {p q : Nat} {l : Bs} {b : Bool} (h : z0T t p b = (l, q, false)) : b = false ∧ l.length ≤ 20000 ∧ t.drop p = z0m l ++ t.drop q ∧ q = p + (z0m l).length := by
 unfold z0T at h
 rcases hr : z0J t p with _ | ⟨m, c⟩
 ·rw [hr] at h; simp at h
 ·rw [hr] at h
  simp at h
  obtain ⟨rfl, rfl, rfl⟩ := h
  exact ⟨rfl, (z2U hr).2.2, z7z hr⟩
theorem z4f {t : Bs} {p n : Nat} {r : Bs} (hn : n ≤ 1000000000) (h : t.drop p = z03 n ++ r) (b : Bool) : z1J t p b = (n, p + (z03 n).length, b) := by
 rw [z1J, z3R hn h]
theorem z5S {t : Bs} {p : Nat} {l r : Bs} (hl : l.length ≤ 20000) (h : t.drop p = z0m l ++ r) (b : Bool) : z0T t p b = (l, p + (z0m l).length, b) := by
 rw [z0T, z7A hl h]
end Go.Proofs.YtfjbinbpgdiafaaGreatDoor.Pl
namespace Go.Proofs.YtfjbinbpgdiafaaGreatDoor.Pl
set_option linter.unusedVariables false
set_option linter.unusedSimpArgs false
set_option linter.unusedSectionVars false
def inB (n lo hi : Int) : Bool := decide (lo ≤ n) && decide (n ≤ hi)
def z0a (k f t e y : Int) (r : Bs) : Bool :=
 inB e 1 4 && inB y 1 1000 && (if k = 1 ∨ k = 3 ∨ k = 4 then f == 0 && inB t 1 4 && r.isEmpty else if k = 2 then t == 0 && inB f 1 4 && r.length == 16 else if k = 5 then t == 0 && inB f 1 4 && r.isEmpty else false)
theorem z0W {n lo hi : Int} : inB n lo hi = true ↔ lo ≤ n ∧ n ≤ hi := by simp [inB]
theorem z2i {k f t e y : Int} {r : Bs} (h : z0a k f t e y r = true) : (1 ≤ k ∧ k ≤ 5) ∧ (0 ≤ f ∧ f ≤ 4) ∧ (0 ≤ t ∧ t ≤ 4) ∧ (1 ≤ e ∧ e ≤ 4) ∧ (1 ≤ y ∧ y ≤ 1000) ∧ r.length ≤ 16 := by
 unfold z0a at h
 simp only [Bool.and_eq_true, z0W] at h
 obtain ⟨⟨he, hy⟩, h⟩ := h
 split at h
 ·simp only [Bool.and_eq_true, z0W, beq_iff_eq, List.isEmpty_iff] at h
  refine ⟨by omega, by omega, by omega, he, hy, ?_⟩
  rw [h.2]; simp
 ·split at h
  ·simp only [Bool.and_eq_true, z0W, beq_iff_eq] at h
   exact ⟨by omega, by omega, by omega, he, hy, by omega⟩
  ·split at h
   ·simp only [Bool.and_eq_true, z0W, beq_iff_eq, List.isEmpty_iff] at h
    refine ⟨by omega, by omega, by omega, he, hy, ?_⟩
    rw [h.2]; simp
   ·cases h
abbrev Lt := Nat × Nat × Nat × Nat × Nat × Bs
end Go.Proofs.YtfjbinbpgdiafaaGreatDoor.Pl
namespace Go.Proofs.YtfjbinbpgdiafaaGreatDoor.Pl
set_option linter.unusedVariables false
set_option linter.unusedSimpArgs false
set_option linter.unusedSectionVars false
abbrev Lf := Bs × Bs
def ltB (a b : Bs) : Bool := Op.bytesLess a b
def lfAt (l : List Lf) (i : Nat) : Lf := l.getD i ([], [])
def z1K (l : List Lf) (i : Nat) : Bool := z0C (lfAt l i).1 && z0O (lfAt l i).2 && (i == 0 || ltB (lfAt l (i - 1)).1 (lfAt l i).1)
def z0b (l : List Lf) : Bool := decide (l.length ≤ 24) && (List.range l.length).all (z1K l)
theorem z4U {l : List Lf} {k : Nat} (hk : k < l.length) (h : z1K l k = false) : z0b l = false := by
 have : (List.range l.length).all (z1K l) = false := by
  rw [List.all_eq_false]
  exact ⟨k, List.mem_range.2 hk, by simp [h]⟩
 rw [z0b, this, Bool.and_false]
theorem z4g {l : List Lf} (h : 24 < l.length) : z0b l = false := by
 have : decide (l.length ≤ 24) = false := by simp; omega
 rw [z0b, this, Bool.false_and]
theorem z2O {l : List Lf} (hl : l.length ≤ 24) (h : ∀ k, k < l.length → z1K l k = true) : z0b l = true := by
 have h1 : decide (l.length ≤ 24) = true := by simpa using hl
 have h2 : (List.range l.length).all (z1K l) = true := List.all_eq_true.2 fun k hk => h k (List.mem_range.1 hk)
 rw [z0b, h1, h2]; rfl
theorem z3a {l : List Lf} : z0b l = true ↔ l.length ≤ 24 ∧ ∀ k, k < l.length → z1K l k = true := by
 constructor
 ·intro h
  rw [z0b, Bool.and_eq_true, decide_eq_true_iff, List.all_eq_true] at h
  exact ⟨h.1, fun k hk => h.2 k (List.mem_range.2 hk)⟩
 ·rintro ⟨h1, h2⟩; exact z2O h1 h2
abbrev Sh := Nat → Bool → Bs × Nat × Bool
def z4V (sh : Sh) : Nat → Nat → Bool → List Lf × Nat × Bool
 | 0, p, b => ([], p, b)
 | _ + 1, p, true => ([], p, true)
 | n + 1, p, false => (((sh p false).1, (sh (sh p false).2.1 (sh p false).2.2).1) :: (z4V sh n (sh (sh p false).2.1 (sh p false).2.2).2.1 (sh (sh p false).2.1 (sh p false).2.2).2.2).1,
     (z4V sh n (sh (sh p false).2.1 (sh p false).2.2).2.1 (sh (sh p false).2.1 (sh p false).2.2).2.2).2)
def LvAt (sh : Sh) (R : List Lf × Nat × Bool) (n : Nat) (l : List Lf) (q : Nat) (b : Bool) : Prop := R = (l ++ (z4V sh n q b).1, (z4V sh n q b).2)
theorem LvAt.start (sh : Sh) (n q : Nat) (b : Bool) : LvAt sh (z4V sh n q b) n [] q b := rfl
theorem LvAt.step {sh : Sh} {R : List Lf × Nat × Bool} {n q q1 q2 : Nat} {l : List Lf} {a v : Bs} {b1 b2 : Bool} (h : LvAt sh R (n + 1) l q false) (h1 : sh q false = (a, q1, b1)) (h2 : sh q1 b1 = (v, q2, b2)) : LvAt sh R n (l ++ [(a, v)]) q2 b2 := by
 unfold LvAt at h ⊢
 rw [h, z4V, h1]
 simp only [h2]
 simp
theorem LvAt.done {sh : Sh} {R : List Lf × Nat × Bool} {q : Nat} {l : List Lf} {b : Bool} (h : LvAt sh R 0 l q b) : R = (l, q, b) := by
 unfold LvAt at h; rw [h, z4V]; simp
theorem LvAt.bad {sh : Sh} {R : List Lf × Nat × Bool} {n q : Nat} {l : List Lf} (h : LvAt sh R n l q true) : R = (l, q, true) := by
 unfold LvAt at h; rw [h]
 cases n <;> simp [z4V]
end Go.Proofs.YtfjbinbpgdiafaaGreatDoor.Pl
namespace Go.Proofs.YtfjbinbpgdiafaaGreatDoor.Pl
set_option linter.unusedVariables false
set_option linter.unusedSimpArgs false
set_option linter.unusedSectionVars false
end Go.Proofs.YtfjbinbpgdiafaaGreatDoor.Pl
namespace Go.Proofs.YtfjbinbpgdiafaaGreatDoor.Pl
set_option linter.unusedVariables false
set_option linter.unusedSimpArgs false
set_option linter.unusedSectionVars false
def z1l (l : List Lf) (n : Bs) : Option Bs := (l.find? fun x => x.1 == n).map (·.2)
def z0P (l : List Lf) (n : Bs) : List Lf := l.filter fun x => x.1 != n
theorem z5T {l : List Lf} {k : Nat} (h : k < l.length) : lfAt l k = l[k] := by simp [lfAt, List.getD, List.getElem?_eq_getElem h]
theorem z1n (l : List Lf) (k : Nat) (h : k < l.length) : l.take (k + 1) = l.take k ++ [lfAt l k] := by
 rw [List.take_add_one, List.getElem?_eq_getElem h, z5T h]; rfl
theorem zb9 {l : List Lf} {k : Nat} {n : Bs} (h : k < l.length) (hx : z1l (l.take k) n = none) (hne : (lfAt l k).1 ≠ n) : z1l (l.take (k + 1)) n = none := by
 rw [z1n l k h]
 simp only [z1l, Option.map_eq_none_iff] at hx ⊢
 rw [List.find?_append, hx]
 simp [hne]
theorem zba {l : List Lf} {k : Nat} {n : Bs} (h : k < l.length) (hx : z1l (l.take k) n = none) (he : (lfAt l k).1 = n) : z1l l n = some (lfAt l k).2 := by
 have e : z1l l n = z1l (l.take (k + 1) ++ l.drop (k + 1)) n := by rw [List.take_append_drop]
 rw [e, z1n l k h]
 simp only [z1l, Option.map_eq_none_iff] at hx ⊢
 rw [List.find?_append, List.find?_append, hx]
 simp [he]
theorem z2j {f : Lf → Bool} {l : List Lf} {k : Nat} (h : k < l.length) : (l.take (k + 1)).filter f = (l.take k).filter f ++ (if f (lfAt l k) = true then [lfAt l k] else []) := by
 rw [z1n l k h, List.filter_append]
 congr 1
 cases hf : f (lfAt l k) <;> simp [hf]
theorem z3b {l : List Lf} {k : Nat} {n : Bs} (h : k < l.length) : z0P (l.take (k + 1)) n = z0P (l.take k) n ++ (if (lfAt l k).1 = n then [] else [lfAt l k]) := by
 unfold z0P
 rw [z2j h]
 by_cases he : (lfAt l k).1 = n <;> simp [he]
def lowL (l : List Lf) (n : Bs) : List Lf := l.filter fun x => ltB x.1 n
def z3T (l : List Lf) (n : Bs) : List Lf := l.filter fun x => !(ltB x.1 n || decide (x.1 = n))
def putL (l : List Lf) (n v : Bs) : List Lf := lowL (z0P l n) n ++ [(n, v)] ++ z3T (z0P l n) n
def putR (l : List Lf) (n v : Bs) : List Lf × Bool := bif z0b l && z0b (putL l n v) then (putL l n v, true) else (l, false)
def insS (n v : Bs) (s : List Lf × Bool) (x : Lf) : List Lf × Bool :=
 ((bif !s.2 && !ltB x.1 n then s.1 ++ [(n, v)] else s.1) ++ (if x.1 = n then [] else [x]), s.2 || !ltB x.1 n)
def insF (l : List Lf) (n v : Bs) : List Lf × Bool := l.foldl (insS n v) ([], false)
def insL (l : List Lf) (n v : Bs) : List Lf := bif (insF l n v).2 then (insF l n v).1 else (insF l n v).1 ++ [(n, v)]
def insR (l : List Lf) (n v : Bs) : List Lf × Bool := bif z0b l && z0b (insL l n v) then (insL l n v, true) else (l, false)
theorem zdl {l : List Lf} {k : Nat} {n v : Bs} (h : k < l.length) : insF (l.take (k + 1)) n v = insS n v (insF (l.take k) n v) (lfAt l k) := by
 rw [z1n l k h]; simp [insF]
theorem zbb (n v : Bs) : ∀ (l : List Lf) (k : Nat), (insF (l.take k) n v).1.length ≤ 2 * k := by
 have : ∀ (l : List Lf) (s : List Lf × Bool), (l.foldl (insS n v) s).1.length ≤ s.1.length + 2 * l.length := by
  intro l
  induction l with
  | nil => intro s; simp
  | cons x l ih =>
    intro s
    have := ih (insS n v s x)
    have h2 : (insS n v s x).1.length ≤ s.1.length + 2 := by
     simp only [insS, List.length_append]
     have a : (bif !s.2 && !ltB x.1 n then s.1 ++ [(n, v)] else s.1).length ≤ s.1.length + 1 := by
      cases (!s.2 && !ltB x.1 n) <;> simp
     have b : (if x.1 = n then ([] : List Lf) else [x]).length ≤ 1 := by split <;> simp
     omega
    simp only [List.foldl_cons, List.length_cons]
    omega
 intro l k
 have h := this (l.take k) ([], false)
 simp only [List.length_nil, Nat.zero_add, List.length_take] at h
 have : min k l.length ≤ k := Nat.min_le_left _ _
 unfold insF
 omega
def z3U (l : List Lf) (n : Bs) : List Lf × Bool := bif (z1l l n).isSome && z0b l then (z0P l n, true) else (l, false)
theorem zdm {l : List Lf} {k : Nat} {n : Bs} (h : k < l.length) : lowL (l.take (k + 1)) n = lowL (l.take k) n ++ (if ltB (lfAt l k).1 n = true then [lfAt l k] else []) := z2j h
theorem zbZ {l : List Lf} {k : Nat} {n : Bs} (h : k < l.length) : z3T (l.take (k + 1)) n = z3T (l.take k) n ++ (if (!(ltB (lfAt l k).1 n || decide ((lfAt l k).1 = n))) = true then [lfAt l k] else []) := z2j h
end Go.Proofs.YtfjbinbpgdiafaaGreatDoor.Pl
namespace Go.Proofs.YtfjbinbpgdiafaaGreatDoor.Pl
set_option linter.unusedVariables false
set_option linter.unusedSimpArgs false
set_option linter.unusedSectionVars false
theorem zfY (a : Bs) : ltB a [] = false := by cases a <;> rfl
theorem zdn (a b : UInt8) (x y : Bs) : ltB (a :: x) (b :: y) = (decide (a < b) || (a == b && ltB x y)) := rfl
theorem lt_irrefl : ∀ a : Bs, ltB a a = false
 | [] => rfl
 | a :: x => by rw [zdn, lt_irrefl x]; simp
theorem lt_trans : ∀ {a b c : Bs}, ltB a b = true → ltB b c = true → ltB a c = true
 | _, [], _, h, _ => by rw [zfY] at h; cases h
 | _, _, [], _, h => by rw [zfY] at h; cases h
 | [], _ :: _, _ :: _, _, _ => rfl
 | a :: x, b :: y, c :: z, h, k => by
   rw [zdn] at h k ⊢
   simp only [Bool.or_eq_true, decide_eq_true_eq, Bool.and_eq_true, beq_iff_eq] at h k ⊢
   rcases h with h | ⟨rfl, h⟩
   ·rcases k with k | ⟨rfl, k⟩
    ·exact .inl (UInt8.lt_trans h k)
    ·exact .inl h
   ·rcases k with k | ⟨rfl, k⟩
    ·exact .inl k
    ·exact .inr ⟨rfl, lt_trans h k⟩
def Sorted (l : List Lf) : Prop := l.Pairwise fun a b => ltB a.1 b.1 = true
theorem z0n {l : List Lf} (h : z0b l = true) : l.length ≤ 24 ∧ (∀ x ∈ l, z0C x.1 = true ∧ z0O x.2 = true) ∧ Sorted l := by
 obtain ⟨h1, h2⟩ := z3a.1 h
 have st : ∀ k (hk : k < l.length), z0C l[k].1 = true ∧ z0O l[k].2 = true ∧ (k = 0 ∨ ltB (lfAt l (k - 1)).1 l[k].1 = true) := fun k hk => by
  have := h2 k hk
  rw [z1K, z5T hk] at this
  simpa [and_assoc] using this
 refine ⟨h1, fun x hx => ?_, ?_⟩
 ·obtain ⟨k, hk, rfl⟩ := List.getElem_of_mem hx
  exact ⟨(st k hk).1, (st k hk).2.1⟩
 ·rw [Sorted, List.pairwise_iff_getElem]
  intro i j hi hj hij
  have key : ∀ d, (h : i + d + 1 < l.length) → ltB l[i].1 l[i + d + 1].1 = true := by
   intro d
   induction d with
   | zero =>
     intro h
     have := ((st (i + 1) h).2.2).resolve_left (by omega)
     rwa [Nat.add_sub_cancel, z5T hi] at this
   | succ d ih =>
     intro h
     have a := ih (by omega)
     have b := ((st (i + (d + 1) + 1) h).2.2).resolve_left (by omega)
     rw [Nat.add_sub_cancel, z5T (show i + (d + 1) < l.length by omega)] at b
     exact lt_trans a b
  have := key (j - i - 1) (by omega)
  simpa [show i + (j - i - 1) + 1 = j by omega] using this
theorem z5U {l : List Lf} (h1 : l.length ≤ 24) (h2 : ∀ x ∈ l, z0C x.1 = true ∧ z0O x.2 = true) (h3 : Sorted l) : z0b l = true := by
 refine z3a.2 ⟨h1, fun k hk => ?_⟩
 rw [z1K, z5T hk, (h2 _ (List.getElem_mem hk)).1, (h2 _ (List.getElem_mem hk)).2]
 cases k with
 | zero => rfl
 | succ k =>
   rw [Nat.add_sub_cancel, z5T (show k < l.length by omega)]
   have := (List.pairwise_iff_getElem.1 h3) k (k + 1) (by omega) hk (by omega)
   rw [this]; rfl
theorem Sorted.filter {l : List Lf} (h : Sorted l) (f : Lf → Bool) : Sorted (l.filter f) := List.Pairwise.filter _ h
theorem z2P {l : List Lf} {n : Bs} {x : Lf} : x ∈ z0P l n ↔ x ∈ l ∧ x.1 ≠ n := by simp [z0P]
theorem zgK {l : List Lf} {n : Bs} {x : Lf} : x ∈ lowL l n ↔ x ∈ l ∧ ltB x.1 n = true := by simp [lowL]
theorem zf3 {l : List Lf} {n : Bs} {x : Lf} : x ∈ z3T l n ↔ x ∈ l ∧ ltB x.1 n = false ∧ x.1 ≠ n := by simp [z3T]
theorem zgL {l : List Lf} {n v : Bs} {x : Lf} : x ∈ putL l n v ↔ x = (n, v) ∨ (x ∈ l ∧ x.1 ≠ n) := by
 rw [putL, List.mem_append, List.mem_append, zgK, zf3, z2P, List.mem_singleton]
 constructor
 ·rintro ((h | h) | h)
  ·exact .inr h.1
  ·exact .inl h
  ·exact .inr h.1
 ·rintro (h | h)
  ·exact .inl (.inr h)
  ·cases hl : ltB x.1 n
   ·exact .inr ⟨h, rfl, h.2⟩
   ·exact .inl (.inl ⟨h, rfl⟩)
theorem z8z {n v : Bs} : ∀ {l acc : List Lf}, l.foldl (insS n v) (acc, true) = (acc ++ z0P l n, true)
 | [], acc => by simp [z0P]
 | x :: l, acc => by
   rw [List.foldl_cons]
   have e : insS n v (acc, true) x = (acc ++ (if x.1 = n then [] else [x]), true) := by simp [insS]
   rw [e, z8z]
   by_cases h : x.1 = n <;> simp [z0P, h]
theorem z70 {n v : Bs} : ∀ {l acc : List Lf}, Sorted l → (bif (l.foldl (insS n v) (acc, false)).2 then (l.foldl (insS n v) (acc, false)).1 else (l.foldl (insS n v) (acc, false)).1 ++ [(n, v)]) = acc ++ putL l n v
 | [], acc, _ => by simp [putL, z0P, lowL, z3T]
 | x :: l, acc, h => by
   obtain ⟨h1, h2⟩ := List.pairwise_cons.1 h
   rw [List.foldl_cons]
   cases hx : ltB x.1 n
   ·have e : insS n v (acc, false) x = (acc ++ [(n, v)] ++ (if x.1 = n then [] else [x]), true) := by simp [insS, hx]
    rw [e, z8z]
    have hge : ∀ y ∈ z0P (x :: l) n, ltB y.1 n = false := fun y hy => by
     rcases List.mem_cons.1 (z2P.1 hy).1 with rfl | hm
     ·exact hx
     ·cases hc : ltB y.1 n
      ·rfl
      ·rw [lt_trans (h1 y hm) hc] at hx; cases hx
    have hne : ∀ y ∈ z0P (x :: l) n, y.1 ≠ n := fun y hy => (z2P.1 hy).2
    have elow : lowL (z0P (x :: l) n) n = [] := by
     rw [lowL, List.filter_eq_nil_iff]
     intro y hy; rw [hge y hy]; simp
    have ehigh : z3T (z0P (x :: l) n) n = z0P (x :: l) n := by
     rw [z3T, List.filter_eq_self]
     intro y hy; rw [hge y hy]; simp [hne y hy]
    rw [putL, elow, ehigh, cond_true]
    by_cases he : x.1 = n <;> simp [z0P, he]
   ·have hne : x.1 ≠ n := fun e => by rw [e, lt_irrefl] at hx; cases hx
    have e : insS n v (acc, false) x = (acc ++ [x], false) := by simp [insS, hx, hne]
    rw [e, z70 (l := l) h2]
    have e2 : putL (x :: l) n v = x :: putL l n v := by simp [putL, z0P, lowL, z3T, hx, hne]
    rw [e2]; simp
theorem zdo {l : List Lf} {n v : Bs} (h : Sorted l) : insL l n v = putL l n v := by
 have := z70 (n := n) (v := v) (acc := []) h
 rw [List.nil_append] at this
 exact this
theorem zc0 {l : List Lf} {n : Bs} (h : z0b l = true) : z0b (z0P l n) = true := by
 obtain ⟨h1, h2, h3⟩ := z0n h
 exact z5U (Nat.le_trans (List.length_filter_le _ _) h1) (fun x hx => h2 x (z2P.1 hx).1) (h3.filter _)
theorem z0D {s : Bs} (h : z0C s = true) : s.length ≤ 12 := by
 simp [z0C, allN] at h; exact h.1.2
theorem z11 {s : Bs} (h : z0O s = true) : s.length ≤ 12 := by
 simp [z0O, allN] at h; exact h.1.2
end Go.Proofs.YtfjbinbpgdiafaaGreatDoor.Pl
namespace Go.Proofs.YtfjbinbpgdiafaaGreatDoor.Pl
set_option linter.unusedVariables false
set_option linter.unusedSimpArgs false
set_option linter.unusedSectionVars false
def zdp (t : Bs) (w : Nat) : Nat → Nat → Bool → List Bs × Nat × Bool
 | 0, p, b => ([], p, b)
 | n + 1, p, b => ((z30 t p b w).1 :: (zdp t w n (z30 t p b w).2.1 (z30 t p b w).2.2).1, (zdp t w n (z30 t p b w).2.1 (z30 t p b w).2.2).2)
def z7B (s : List Bs) (w : Int) : Bool := s.all (fun x => decide ((x.length : Int) = w)) && inB w 1 32
end Go.Proofs.YtfjbinbpgdiafaaGreatDoor.Pl
namespace Go.Proofs.YtfjbinbpgdiafaaGreatDoor.Pl
set_option linter.unusedVariables false
set_option linter.unusedSimpArgs false
set_option linter.unusedSectionVars false
def shlN (x : UInt32) (n : Nat) : UInt32 := UInt32.ofNat (x.toNat * 2 ^ n)
def shrN (x : UInt32) (n : Nat) : UInt32 := UInt32.ofNat (x.toNat / 2 ^ n)
def o8 (b : UInt8) : UInt32 := UInt32.ofNat b.toNat
def z21 (x : UInt32) (n : Nat) : UInt32 := shrN x n ||| shlN x (32 - n)
def zfa (b : Bs) (i : Nat) : UInt32 := shlN (o8 (b.getD (4 * i) 0)) 24 ||| shlN (o8 (b.getD (4 * i + 1) 0)) 16 ||| shlN (o8 (b.getD (4 * i + 2) 0)) 8 ||| o8 (b.getD (4 * i + 3) 0)
def upd (f : Nat → UInt32) (i : Nat) (x : UInt32) : Nat → UInt32 := fun j => bif Nat.beq j i then x else f j
def z2W (b : Bs) (i : Nat) : Nat → UInt32 := (List.range i).foldl (fun ws k => upd ws k (zfa b k)) (fun _ => 0)
def z4k (ws : Nat → UInt32) (i : Nat) : Nat → UInt32 :=
 upd ws i (ws (i - 16) + (z21 (ws (i - 15)) 7 ^^^ z21 (ws (i - 15)) 18 ^^^ shrN (ws (i - 15)) 3) + ws (i - 7) + (z21 (ws (i - 2)) 17 ^^^ z21 (ws (i - 2)) 19 ^^^ shrN (ws (i - 2)) 10))
def z2G (ws : Nat → UInt32) (i : Nat) : Nat → UInt32 := (List.range (i - 16)).foldl (fun ws k => z4k ws (k + 16)) ws
structure W8 where
 a : UInt32
 b : UInt32
 c : UInt32
 d : UInt32
 e : UInt32
 f : UInt32
 g : UInt32
 h : UInt32
def W8.list (s : W8) : List UInt32 := [s.a, s.b, s.c, s.d, s.e, s.f, s.g, s.h]
def rnd (s : W8) (k w : UInt32) : W8 :=
 let one := s.h + (z21 s.e 6 ^^^ z21 s.e 11 ^^^ z21 s.e 25) + (s.e &&& s.f ^^^ (s.e ^^^ 4294967295) &&& s.g) + k + w
 let two := (z21 s.a 2 ^^^ z21 s.a 13 ^^^ z21 s.a 22) + (s.a &&& s.b ^^^ s.a &&& s.c ^^^ s.b &&& s.c)
 ⟨one + two, s.a, s.b, s.c, s.d + one, s.e, s.f, s.g⟩
def rnds (s : W8) (ks ws : Nat → UInt32) (i : Nat) : W8 := (List.range i).foldl (fun s j => rnd s (ks j) (ws j)) s
def addW (h s : Nat → UInt32) (i : Nat) : Nat → UInt32 := (List.range i).foldl (fun l j => upd l j (l j + s j)) h
def W8.fn (s : W8) : Nat → UInt32 := fun j => s.list.getD j 0
def add8 (h s : W8) : W8 := ⟨h.a + s.a, h.b + s.b, h.c + s.c, h.d + s.d, h.e + s.e, h.f + s.f, h.g + s.g, h.h + s.h⟩
def z73 (h : W8) (b : Bs) (ks : Nat → UInt32) : W8 := add8 h (rnds h ks (z2G (z2W b 16) 64) 64)
theorem z5X (b : Bs) (i : Nat) : z2W b (i + 1) = upd (z2W b i) i (zfa b i) := by simp [z2W, List.range_succ]
theorem z5Y {ws : Nat → UInt32} {i : Nat} (h : 16 ≤ i) : z2G ws (i + 1) = z4k (z2G ws i) i := by
 rw [z2G, z2G, show i + 1 - 16 = (i - 16) + 1 by omega, List.range_succ, List.foldl_append]
 simp [show i - 16 + 16 = i by omega]
theorem z8H (s : W8) (ks ws : Nat → UInt32) (i : Nat) : rnds s ks ws (i + 1) = rnd (rnds s ks ws i) (ks i) (ws i) := by simp [rnds, List.range_succ]
theorem z5Z (h s : Nat → UInt32) (i : Nat) : addW h s (i + 1) = upd (addW h s i) i (addW h s i i + s i) := by simp [addW, List.range_succ]
theorem z7I (h s : Nat → UInt32) : ∀ (i j : Nat), addW h s i j = if j < i then h j + s j else h j
 | 0, j => rfl
 | i + 1, j => by
   rw [z5Z, upd, z7I h s i, z7I h s i]
   by_cases hj : j = i
   ·subst hj; simp
   ·have : Nat.beq j i = false := by
     cases hb : Nat.beq j i with
     | false => rfl
     | true => exact absurd (Nat.eq_of_beq_eq_true hb) hj
    rw [this, cond_false]
    by_cases h1 : j < i
    ·rw [if_pos h1, if_pos (by omega)]
    ·rw [if_neg h1, if_neg (by omega)]
def z0X : Nat → Bs → Bs
 | 0, t => t
 | n + 1, t => if t.length % 64 = 56 then t else z0X n (t ++ [0])
def lenB (n : Nat) (i : Nat) : Bs := (List.range i).map fun j => UInt8.ofNat (n / 2 ^ (8 * (7 - j)))
def padB (t : Bs) : Bs := z0X 64 (t ++ [128]) ++ lenB (8 * t.length) 8
def z22 (h : W8) (p : Bs) (ks : Nat → UInt32) (i : Nat) : W8 := (List.range i).foldl (fun h j => z73 h ((p.drop (64 * j)).take 64) ks) h
theorem z4Z (h : W8) (p : Bs) (ks : Nat → UInt32) (i : Nat) : z22 h p ks (i + 1) = z73 (z22 h p ks i) ((p.drop (64 * i)).take 64) ks := by simp [z22, List.range_succ]
def out4 (out : Bs) (x : UInt32) (i : Nat) : Bs :=
 (((out.set (4 * i) (UInt8.ofNat (shrN x 24).toNat)).set (4 * i + 1) (UInt8.ofNat (shrN x 16).toNat)).set (4 * i + 2) (UInt8.ofNat (shrN x 8).toNat)).set (4 * i + 3) (UInt8.ofNat x.toNat)
def outB (h : Nat → UInt32) (i : Nat) : Bs := (List.range i).foldl (fun out j => out4 out (h j) j) (List.replicate 32 0)
theorem z8I (h : Nat → UInt32) (i : Nat) : outB h (i + 1) = out4 (outB h i) (h i) i := by simp [outB, List.range_succ]
theorem z7J (h : Nat → UInt32) : ∀ i, (outB h i).length = 32
 | 0 => rfl
 | i + 1 => by rw [z8I]; simp only [out4, List.length_set]; exact z7J h i
def first8 : W8 := ⟨1779033703, 3144134277, 1013904242, 2773480762, 1359893119, 2600822924, 528734635, 1541459225⟩
def keys64 : List UInt32 := [1116352408, 1899447441, 3049323471, 3921009573, 961987163, 1508970993, 2453635748, 2870763221, 3624381080, 310598401, 607225278, 1426881987, 1925078388, 2162078206, 2614888103, 3248222580, 3835390401, 4022224774, 264347078, 604807628, 770255983, 1249150122, 1555081692, 1996064986, 2554220882, 2821834349, 2952996808, 3210313671, 3336571891, 3584528711, 113926993, 338241895, 666307205, 773529912, 1294757372, 1396182291, 1695183700, 1986661051, 2177026350, 2456956037, 2730485921, 2820302411, 3259730800, 3345764771, 3516065817, 3600352804, 4094571909, 275423344, 430227734, 506948616, 659060556, 883997877, 958139571, 1322822218, 1537002063, 1747873779, 1955562222, 2024104815, 2227730452, 2361852424, 2428436474, 2756734187, 3204031479, 3329325298]
def kF : Nat → UInt32 := fun j => keys64.getD j 0
def z2k (t : Bs) : Bs := outB (z22 first8 (padB t) kF ((padB t).length / 64)).fn 8
theorem z60 : ∀ (n : Nat) (t : Bs), (56 + 64 - t.length % 64) % 64 ≤ n → (z0X n t).length % 64 = 56 ∧ (z0X n t).length ≤ t.length + n
 | 0, t, h => by simp only [z0X]; omega
 | n + 1, t, h => by
   simp only [z0X]
   split
   ·omega
   ·have := z60 n (t ++ [0]) (by simp; omega)
    simp at this ⊢
    omega
theorem zbh (t : Bs) : (padB t).length % 64 = 0 ∧ (padB t).length ≤ t.length + 73 ∧ 64 ≤ (padB t).length := by
 have := z60 64 (t ++ [128]) (by omega)
 simp only [padB, lenB, List.length_append, List.length_map, List.length_range, List.length_singleton] at this ⊢
 omega
theorem z2l (t : Bs) : (z2k t).length = 32 := z7J _ _
end Go.Proofs.YtfjbinbpgdiafaaGreatDoor.Pl
namespace Go.Proofs.YtfjbinbpgdiafaaGreatDoor.Pl
set_option linter.unusedVariables false
set_option linter.unusedSimpArgs false
set_option linter.unusedSectionVars false
theorem zbi : ∀ (n : Nat) (t : Bs), (56 + 64 - t.length % 64) % 64 ≤ n → z0X n t = t ++ List.replicate ((56 + 64 - t.length % 64) % 64) 0
 | 0, t, h => by
   have h0 : (56 + 64 - t.length % 64) % 64 = 0 := by omega
   simp [z0X, h0]
 | n + 1, t, h => by
   simp only [z0X]
   split
   ·have h0 : (56 + 64 - t.length % 64) % 64 = 0 := by omega
    simp [h0]
   ·have e : (56 + 64 - t.length % 64) % 64 = (56 + 64 - (t ++ [0]).length % 64) % 64 + 1 := by simp; omega
    rw [zbi n (t ++ [0]) (by omega), e, List.append_assoc, List.replicate_succ]
    rfl
def padI (t : Bs) : Bs := t ++ [128] ++ List.replicate ((119 - t.length % 64) % 64) 0 ++ lenB (8 * t.length) 8
theorem zgR (t : Bs) : padI t = padB t := by
 have e : (56 + 64 - (t ++ [128]).length % 64) % 64 = (119 - t.length % 64) % 64 := by simp; omega
 rw [padI, padB, zbi 64 (t ++ [128]) (by omega), e]
def four (x : UInt32) : Bs := [UInt8.ofNat (shrN x 24).toNat, UInt8.ofNat (shrN x 16).toNat, UInt8.ofNat (shrN x 8).toNat, UInt8.ofNat x.toNat]
def outI (h : Nat → UInt32) (i : Nat) : Bs := (List.range i).flatMap fun j => four (h j)
theorem z8J (h : Nat → UInt32) (i : Nat) : outI h (i + 1) = outI h i ++ four (h i) := by simp [outI, List.range_succ]
theorem zbj (h : Nat → UInt32) : ∀ i, (outI h i).length = 4 * i
 | 0 => rfl
 | i + 1 => by rw [z8J, List.length_append, zbj h i]; simp [four]; omega
theorem zgS (h : Nat → UInt32) : outI h 8 = outB h 8 := by kernel_rfl
theorem zdM (x : UInt32) (n : Nat) : shlN x (32 - n) ||| shrN x n = z21 x n := UInt32.or_comm _ _
theorem xor_comm (a b : UInt32) : a ^^^ b = b ^^^ a := UInt32.xor_comm _ _
def ixB (s : Bs) : Nat := ((z2k s).getD 0 0).toNat
theorem zdN (s : Bs) : ixB s < 256 := UInt8.toNat_lt _
end Go.Proofs.YtfjbinbpgdiafaaGreatDoor.Pl
namespace Go.Proofs.YtfjbinbpgdiafaaGreatDoor.Pl
set_option linter.unusedVariables false
set_option linter.unusedSimpArgs false
set_option linter.unusedSectionVars false
def tagB (k : Nat) (ps : List Bs) : Bs := UInt8.ofNat k :: ps.flatMap z0m
def cutB (t : Bs) (w : Nat) : Bs := (z2k t).take w
def z2H (k : Nat) (ps : List Bs) (w : Nat) : Bs := cutB (tagB k ps) w
theorem z4l {t : Bs} {w : Nat} (h : w ≤ 32) : (cutB t w).length = w := by rw [cutB, List.length_take, z2l]; omega
theorem z61 {k : Nat} {ps : List Bs} {w : Nat} (h : w ≤ 32) : (z2H k ps w).length = w := z4l h
def z1Y (l : List Lf) : List Bs := l.flatMap fun x => [x.1, x.2]
def z17 (l : List Lf) : Bs := if l = [] then tagB 1 [] else tagB 2 (z1Y l)
def emB (w : Nat) : Nat → Bs
 | 0 => z2H 1 [] w
 | d + 1 => z2H 3 [emB w d, emB w d] w
def atP (l : List Lf) (d p : Nat) : List Lf := l.filter fun x => decide (ixB x.1 / 2 ^ d = p)
def z0A (l : List Lf) (w : Nat) : Nat → Nat → Bs
 | 0, p => cutB (z17 (atP l 0 p)) w
 | d + 1, p => if atP l (d + 1) p = [] then emB w (d + 1) else z2H 3 [z0A l w d (2 * p), z0A l w d (2 * p + 1)] w
theorem z9U {w : Nat} (h : w ≤ 32) : ∀ d, (emB w d).length = w
 | 0 => z61 h
 | d + 1 => z61 h
theorem z3e {l : List Lf} {w : Nat} (h : w ≤ 32) : ∀ d p, (z0A l w d p).length = w
 | 0, p => z4l h
 | d + 1, p => by
   rw [z0A]
   split
   ·exact z9U h _
   ·exact z61 h
theorem div_up {a d p : Nat} : a / 2 ^ (d + 1) = p ↔ a / 2 ^ d = 2 * p ∨ a / 2 ^ d = 2 * p + 1 := by
 rw [Nat.pow_succ, ← Nat.div_div_eq_div_mul]; omega
theorem z3X {l : List Lf} {d p q : Nat} (h : q = 2 * p ∨ q = 2 * p + 1) : atP (atP l (d + 1) p) d q = atP l d q := by
 unfold atP
 rw [List.filter_filter]
 apply List.filter_congr
 intro x _
 by_cases h1 : ixB x.1 / 2 ^ d = q
 ·have : ixB x.1 / 2 ^ (d + 1) = p := div_up.2 (by omega)
  simp [h1, this]
 ·simp [h1]
theorem z3Y {w : Nat} : ∀ (d : Nat) {l m : List Lf} {p : Nat}, atP l d p = atP m d p → z0A l w d p = z0A m w d p
 | 0, l, m, p, h => by rw [z0A, z0A, h]
 | d + 1, l, m, p, h => by
   have h1 : atP l d (2 * p) = atP m d (2 * p) := by rw [← z3X (l := l) (.inl rfl), ← z3X (l := m) (.inl rfl), h]
   have h2 : atP l d (2 * p + 1) = atP m d (2 * p + 1) := by rw [← z3X (l := l) (.inr rfl), ← z3X (l := m) (.inr rfl), h]
   rw [z0A, z0A, h, z3Y d h1, z3Y d h2]
theorem z62 (l : List Lf) (w d p : Nat) {q : Nat} (h : q = 2 * p ∨ q = 2 * p + 1) : z0A (atP l (d + 1) p) w d q = z0A l w d q := z3Y d (by
 rw [z3X h])
theorem z3Z {w : Nat} : ∀ (d : Nat) {l : List Lf} {p : Nat}, atP l d p = [] → z0A l w d p = emB w d
 | 0, l, p, h => by rw [z0A, h]; rfl
 | d + 1, l, p, h => by rw [z0A, if_pos h]
theorem zcb (l : List Lf) (w d p : Nat) : z0A l w (d + 1) p = z2H 3 [z0A l w d (2 * p), z0A l w d (2 * p + 1)] w := by
 rw [z0A]
 split
 ·rename_i h
  have h1 : atP l d (2 * p) = [] := by rw [← z3X (l := l) (.inl rfl), h]; rfl
  have h2 : atP l d (2 * p + 1) = [] := by rw [← z3X (l := l) (.inr rfl), h]; rfl
  rw [z3Z d h1, z3Z d h2]; rfl
 ·rfl
def sib (a : Nat) : Nat := if a % 2 = 0 then a + 1 else a - 1
def z14 (l : List Lf) (w ix n : Nat) : List Bs := (List.range n).map fun j => z0A l w j (sib (ix / 2 ^ j))
theorem z2b (l : List Lf) (w ix n : Nat) : (z14 l w ix n).length = n := by simp [z14]
theorem z63 (l : List Lf) (w ix n : Nat) : z14 l w ix (n + 1) = z14 l w ix n ++ [z0A l w n (sib (ix / 2 ^ n))] := by simp [z14, List.range_succ]
theorem z64 {l : List Lf} {w ix n : Nat} (h : w ≤ 32) : ∀ s ∈ z14 l w ix n, s.length = w := by
 intro s hs
 simp only [z14, List.mem_map] at hs
 obtain ⟨j, _, rfl⟩ := hs
 exact z3e h _ _
def bitB (ix j : Nat) : Nat := ix / 2 ^ j % 2
def z4m (ix j : Nat) (h s : Bs) : List Bs := if bitB ix j = 1 then [s, h] else [h, s]
def z2R (ix w : Nat) : Nat → Bs → List Bs → List Bs × Bs
 | _, h, [] => ([], h)
 | j, h, s :: ss =>
   let t := tagB 3 (z4m ix j h s)
   (t :: (z2R ix w (j + 1) (cutB t w) ss).1, (z2R ix w (j + 1) (cutB t w) ss).2)
theorem z8K (ix w : Nat) : ∀ (ss : List Bs) (j : Nat) (h : Bs), (z2R ix w j h ss).1.length = ss.length
 | [], j, h => rfl
 | s :: ss, j, h => by simp [z2R, z8K ix w ss]
theorem z8L (l : List Lf) (w ix : Nat) : ∀ (n j : Nat), (z2R ix w j (z0A l w j (ix / 2 ^ j)) ((List.range' j n).map fun i => z0A l w i (sib (ix / 2 ^ i)))).2 = z0A l w (j + n) (ix / 2 ^ (j + n))
 | 0, j => rfl
 | n + 1, j => by
   rw [List.range'_succ, List.map_cons, z2R]
   have hp : cutB (tagB 3 (z4m ix j (z0A l w j (ix / 2 ^ j)) (z0A l w j (sib (ix / 2 ^ j))))) w = z0A l w (j + 1) (ix / 2 ^ (j + 1)) := by
    rw [zcb]
    have e : ix / 2 ^ (j + 1) = ix / 2 ^ j / 2 := by rw [Nat.pow_succ, Nat.div_div_eq_div_mul]
    unfold z4m bitB z2H
    rw [e]
    generalize ix / 2 ^ j = a
    by_cases h : a % 2 = 1
    ·have h1 : 2 * (a / 2) + 1 = a := by omega
     have h2 : sib a = 2 * (a / 2) := by unfold sib; rw [if_neg (by omega)]; omega
     rw [if_pos h, h1, h2]
    ·have h1 : 2 * (a / 2) = a := by omega
     have h2 : sib a = 2 * (a / 2) + 1 := by unfold sib; rw [if_pos (by omega)]; omega
     rw [if_neg h, h2, h1]
   simp only
   rw [hp, z8L l w ix n (j + 1), show j + 1 + n = j + (n + 1) by omega]
theorem z8M (ix w : Nat) : ∀ (ss : List Bs) (j : Nat) (h t : Bs), h = cutB t w → cutB ((t :: (z2R ix w j h ss).1).getLastD []) w = (z2R ix w j h ss).2
 | [], j, h, t, e => by simp [z2R, e]
 | s :: ss, j, h, t, e => by
   simp only [z2R]
   have := z8M ix w ss (j + 1) (cutB (tagB 3 (z4m ix j h s)) w) (tagB 3 (z4m ix j h s)) rfl
   simpa [List.getLastD_cons] using this
end Go.Proofs.YtfjbinbpgdiafaaGreatDoor.Pl
namespace Go.Proofs.YtfjbinbpgdiafaaGreatDoor.Pl
set_option linter.unusedVariables false
set_option linter.unusedSimpArgs false
set_option linter.unusedSectionVars false
abbrev Ch := Int × Bs × Bs
def z1L (l : List Lf) (u : Ch) : List Lf := bif u.2.2.isEmpty then (z3U l u.2.1).1 else (insR l u.2.1 u.2.2).1
def z3c (l : List Lf) (u : Ch) : List Lf := bif u.2.2.isEmpty then (z3U l u.2.1).1 else (putR l u.2.1 u.2.2).1
def zg0 (u : Ch) : Prop := z0C u.2.1 = true ∧ (u.2.2 = [] ∨ z0O u.2.2 = true)
theorem zf8 {l : List Lf} {n : Bs} (h : z0b l = true) : z0b (z3U l n).1 = true := by
 unfold z3U
 cases (z1l l n).isSome && z0b l
 ·exact h
 ·exact zc0 h
theorem zgQ {l : List Lf} {n v : Bs} (h : z0b l = true) : z0b (insR l n v).1 = true := by
 unfold insR
 rw [h, Bool.true_and]
 cases h2 : z0b (insL l n v)
 ·exact h
 ·exact h2
theorem z8E {l : List Lf} {u : Ch} (h : z0b l = true) : z0b (z1L l u) = true := by
 unfold z1L
 cases u.2.2.isEmpty
 ·exact zgQ h
 ·exact zf8 h
theorem zdD {l : List Lf} {n v : Bs} (h : z0b l = true) : insR l n v = putR l n v := by
 rw [insR, putR, zdo (z0n h).2.2]
theorem zdE {l : List Lf} {u : Ch} (h : z0b l = true) : z3c l u = z1L l u := by
 rw [z3c, z1L, zdD h]
theorem z9O {us : List Ch} : ∀ {l : List Lf}, z0b l = true → z0b (us.foldl z1L l) = true := by
 induction us with
 | nil => exact fun h => h
 | cons u us ih => exact fun h => ih (z8E h)
theorem zdF {us : List Ch} : ∀ {l : List Lf}, z0b l = true → us.foldl z3c l = us.foldl z1L l := by
 induction us with
 | nil => exact fun _ => rfl
 | cons u us ih => intro l h; rw [List.foldl_cons, List.foldl_cons, zdE h]; exact ih (z8E h)
def zc6 (l : List Lf) (n : Bs) : Bs × Bool := ((z1l l n).getD [], (z1l l n).isSome)
end Go.Proofs.YtfjbinbpgdiafaaGreatDoor.Pl
