/- Plain: the checksum. Plain: what is read is what was written, and the other way round. Plain: letters. Plain: entries. Entries, no program in sight: both readers agree. Plain: an entry is looked up, put, dropped. Plain: what holds of an entry that is put, and of one that is dropped; entries are read as they were written. Plain: proofs are read as they were written, by the program and by the reference alike. Plain: words of 32 bits, and the digest as the reference reckons it. Plain: the digest as the program reckons it is the reference's. Plain: the tree of hashes, and the way up from a bucket to the root. Plain: changes are applied one by one; the last change of a name counts. -/
import Derived.Test.YtnhcfmmdaihneaaGreatDoorPlain
import Derived.Laws.BitsAllLaws
import Derived.KernelRfl
namespace Go.Proofs.YtnhcfmmdaihneaaGreatDoor.Pl
set_option linter.unusedVariables false
set_option linter.unusedSimpArgs false
set_option linter.unusedSectionVars false
def zbM (s : Nat) : Nat := if s % 2 = 1 then (s / 2) ^^^ 3558460437 else s / 2
def z50 : Nat → Nat → Nat
 | 0, s => s
 | n + 1, s => zbM (z50 n s)
def z2q (s : Nat) (l : Bs) : Nat := l.foldl (fun s b => z50 8 (s ^^^ b.toNat)) s
def z3F (l : Bs) : Nat := z2q 4294967295 l
theorem z8j {a b : Nat} (ha : (a : Int) ≤ 4294967295) (hb : (b : Int) ≤ 4294967295) : ((a ^^^ b : Nat) : Int) ≤ 4294967295 := by
 have : a ^^^ b < 2 ^ 32 := Nat.xor_lt_two_pow (by omega) (by omega)
 omega
theorem zix {a : Nat} (ha : (a : Int) ≤ 4294967295) : ((zbM a : Nat) : Int) ≤ 4294967295 := by
 unfold zbM; split
 ·exact z8j (by omega) (by omega)
 ·omega
theorem zdh {a : Nat} (ha : (a : Int) ≤ 4294967295) : ∀ n, ((z50 n a : Nat) : Int) ≤ 4294967295
 | 0 => ha
 | n + 1 => zix (zdh ha n)
theorem z5Z (s : Nat) (l : Bs) (b : UInt8) : z2q s (l ++ [b]) = z50 8 (z2q s l ^^^ b.toNat) := by simp [z2q]
theorem zet {s : Nat} (hs : (s : Int) ≤ 4294967295) : ∀ l : Bs, ((z2q s l : Nat) : Int) ≤ 4294967295 := by
 intro l
 unfold z2q
 induction l generalizing s with
 | nil => exact hs
 | cons b l ih =>
   rw [List.foldl_cons]
   refine ih (zdh (z8j hs ?_) 8)
   have := b.toNat_lt; omega
theorem zdi (l : Bs) : ((z3F l : Nat) : Int) ≤ 4294967295 := zet (by omega) l
theorem z60 (s : ByteArray) (k : Nat) (h : k < s.size) : ∃ b : UInt8, b.toNat = nb s k ∧ s.data.toList.take (k + 1) = s.data.toList.take k ++ [b] := by
 obtain ⟨b, hb, hd⟩ := zbs s k h
 refine ⟨b, hb, ?_⟩
 rw [List.take_add, hd]; rfl
theorem xr32 {a b : Nat} (ha : (a : Int) ≤ 4294967295) (hb : (b : Int) ≤ 4294967295) : bits .xor .u32 (a : Int) (b : Int) = ((a ^^^ b : Nat) : Int) := u32_xor_nat a b (by omega) (by omega)
theorem zac {a : Nat} (ha : (a : Int) ≤ 4294967295) : bits .xor .u32 ((a : Int) / 2) 3558460437 = (((a / 2) ^^^ 3558460437 : Nat) : Int) := by
 have := xr32 (a := a / 2) (b := 3558460437) (by omega) (by omega)
 rw [← this]
 congr 1
theorem zdj {y : Nat} (hy : (y : Int) ≤ 4294967295) : bits .and .u32 (y : Int) 1 = ((y % 2 : Nat) : Int) := by
 have := u32_and_nat y 1 (by omega) (by omega)
 rw [← nat_mask1, ← this]; rfl
def z3n (x : Nat) : Bs := [UInt8.ofNat (x / 16777216), UInt8.ofNat (x / 65536), UInt8.ofNat (x / 256), UInt8.ofNat x]
theorem zg3 (x : Nat) : (z3n x).length = 4 := rfl
end Go.Proofs.YtnhcfmmdaihneaaGreatDoor.Pl
namespace Go.Proofs.YtnhcfmmdaihneaaGreatDoor.Pl
set_option linter.unusedVariables false
set_option linter.unusedSimpArgs false
set_option linter.unusedSectionVars false
theorem zdk : ∀ (f k n : Nat) (r : Bs) (m c : Nat), rvGo f k n r = some (m, c) →
 ∃ (ds : Bs) (x : UInt8) (r' : Bs), r = ds ++ x :: r' ∧ (∀ d ∈ ds, 128 ≤ d.toNat) ∧ x.toNat < 128 ∧ c = k + ds.length + 1 ∧ m = n + val (ds ++ [x]) * 128 ^ k ∧ (x.toNat ≠ 0 ∨ (ds = [] ∧ k = 0))
 | 0, _, _, _, _, _, h => by cases h
 | _ + 1, _, _, [], _, _, h => by cases h
 | f + 1, k, n, x :: r, m, c, h => by
   rw [rvGo] at h
   split at h
   ·rename_i hx
    split at h
    ·cases h
    ·rename_i hb
     injection h with h; injection h with h1 h2
     refine ⟨[], x, r, rfl, by simp, hx, by simp; omega, ?_, ?_⟩
     ·have : val ([] ++ [x]) = x.toNat := by simp [val]; omega
      rw [this, z5t, h1]
     ·by_cases h0 : x.toNat = 0
      ·right; refine ⟨rfl, ?_⟩; omega
      ·exact .inl h0
   ·rename_i hx
    obtain ⟨ds, y, r', e, hd, hy, hc, hm, hz⟩ := zdk f (k + 1) _ r m c h
    refine ⟨x :: ds, y, r', by rw [e]; rfl, ?_, hy, by rw [List.length_cons]; omega, ?_, ?_⟩
    ·intro d hd'
     rcases List.mem_cons.1 hd' with rfl | hd'
     ·omega
     ·exact hd d hd'
    ·rw [hm, List.cons_append, val, ← z5t, Nat.pow_succ]
     have e1 : val (ds ++ [y]) * (128 ^ k * 128) = 128 * val (ds ++ [y]) * 128 ^ k := by rw [Nat.mul_comm (128 ^ k) 128, ← Nat.mul_assoc, Nat.mul_comm (val _) 128]
     rw [e1, Nat.add_mul, Nat.add_assoc]
    ·rcases hz with hz | ⟨_, hz⟩
     ·exact .inl hz
     ·omega
theorem z4v {t : Bs} {p n q : Nat} (h : z0B t p = some (n, q)) : t.drop p = z0r n ++ t.drop q ∧ q = p + (z0r n).length := by
 have hb := z0U h
 unfold z0B at h
 rcases hg : rvGo 5 0 0 (t.drop p) with _ | ⟨m, c⟩
 ·rw [hg] at h; cases h
 ·rw [hg] at h
  simp at h
  obtain ⟨rfl, rfl⟩ := h
  obtain ⟨ds, x, r', e, hd, hx, hc, hm, hz⟩ := zdk _ _ _ _ _ _ hg
  simp at hm hc
  have hv : z0r m = ds ++ [x] := by
   rw [hm]
   refine (z4k x hx ds hd).2 ?_
   rcases hz with hz | ⟨hz, _⟩
   ·exact .inl hz
   ·exact .inr hz
  have hl : (z0r m).length = c := by rw [hv]; simp; omega
  refine ⟨?_, by rw [hl]⟩
  rw [← List.drop_drop, e, hv]
  have : (ds ++ x :: r').drop c = r' := by
   rw [hc]
   have e2 : ds ++ x :: r' = (ds ++ [x]) ++ r' := by simp
   rw [e2]
   have : ds.length + 1 = (ds ++ [x]).length := by simp
   rw [this, List.drop_left]
  rw [this]; simp
theorem z90 : ∀ (n : Nat), ∃ (ds : Bs) (x : UInt8), z0r n = ds ++ [x] ∧ (∀ d ∈ ds, 128 ≤ d.toNat) ∧ x.toNat < 128 ∧ (x.toNat ≠ 0 ∨ ds = []) ∧ val (ds ++ [x]) = n := by
 intro n
 induction n using Nat.strongRecOn with
 | ind n ih =>
   by_cases hn : n ≤ 127
   ·refine ⟨[], UInt8.ofNat n, z1p hn, by simp, ?_, .inr rfl, ?_⟩
    ·simp; omega
    ·simp [val]; omega
   ·obtain ⟨ds, x, e, hd, hx, hz, hv⟩ := ih (n / 128) (by omega)
    have ht : (UInt8.ofNat (128 + n % 128)).toNat = 128 + n % 128 := by simp; omega
    refine ⟨UInt8.ofNat (128 + n % 128) :: ds, x, by rw [z2F hn, e]; rfl, ?_, hx, ?_, ?_⟩
    ·intro d hd'
     rcases List.mem_cons.1 hd' with rfl | hd'
     ·omega
     ·exact hd d hd'
    ·rcases hz with hz | hz
     ·exact .inl hz
     ·subst hz
      left
      intro h0
      simp [val, h0] at hv
      omega
    ·rw [List.cons_append, val, hv, ht]; omega
theorem zdl : ∀ (ds : Bs) (x : UInt8) (r : Bs) (f k n : Nat), (∀ d ∈ ds, 128 ≤ d.toNat) → x.toNat < 128 → (x.toNat ≠ 0 ∨ (ds = [] ∧ k = 0)) → ds.length < f → n + val (ds ++ [x]) * 128 ^ k ≤ 1000000000 →
 rvGo f k n (ds ++ x :: r) = some (n + val (ds ++ [x]) * 128 ^ k, k + ds.length + 1)
 | [], x, r, f + 1, k, n, _, hx, hz, _, hm => by
   have hv : val ([] ++ [x]) = x.toNat := by simp [val]; omega
   rw [hv, z5t] at hm ⊢
   exact zfj f k n x r hx (by rcases hz with h | ⟨_, h⟩ <;> omega) hm
 | d :: ds, x, r, f + 1, k, n, hd, hx, hz, hf, hm => by
   have hd1 : 128 ≤ d.toNat := hd d (by simp)
   have hz1 : x.toNat ≠ 0 := by
    rcases hz with h | ⟨h, _⟩
    ·exact h
    ·cases h
   have e : n + d.toNat % 128 * 2 ^ (7 * k) + val (ds ++ [x]) * 128 ^ (k + 1) = n + val (d :: ds ++ [x]) * 128 ^ k := by
    rw [List.cons_append, val, ← z5t, Nat.pow_succ]
    have e1 : val (ds ++ [x]) * (128 ^ k * 128) = 128 * val (ds ++ [x]) * 128 ^ k := by rw [Nat.mul_comm (128 ^ k) 128, ← Nat.mul_assoc, Nat.mul_comm (val _) 128]
    rw [e1, Nat.add_mul, Nat.add_assoc]
   rw [List.cons_append, z6A _ _ _ _ _ (by omega), zdl ds x r f (k + 1) _ (fun y hy => hd y (by simp [hy])) hx (.inl hz1) (by simpa using hf) (by rw [e]; exact hm), e]
   simp; omega
theorem zbN {t : Bs} {p n : Nat} {r : Bs} (hn : n ≤ 1000000000) (h : t.drop p = z0r n ++ r) : z0B t p = some (n, p + (z0r n).length) := by
 obtain ⟨ds, x, e, hd, hx, hz, hv⟩ := z90 n
 have hl := z1q (n := n) (by omega)
 rw [e] at hl
 simp at hl
 have hg := zdl ds x r 5 0 0 hd hx (by rcases hz with h | h <;> simp [h]) (by omega) (by rw [hv]; omega)
 rw [z0B, h, e, List.append_assoc]
 show (rvGo 5 0 0 (ds ++ x :: r)).map _ = _
 rw [hg, hv]
 simp
theorem z91 {t : Bs} {p q : Nat} {l : Bs} (h : z0s t p = some (l, q)) : t.drop p = z0v l ++ t.drop q ∧ q = p + (z0v l).length := by
 unfold z0s at h
 rcases hr : z0B t p with _ | ⟨n, c⟩
 ·rw [hr] at h; cases h
 ·have hb := z0U hr
  obtain ⟨e1, e2⟩ := z4v hr
  rw [hr] at h
  simp only at h
  split at h
  ·rename_i hc
   injection h with h; injection h with h1 h2; subst h1; subst h2
   have hl : ((t.drop c).take n).length = n := by simp; omega
   refine ⟨?_, by rw [z0v, List.length_append, hl]; omega⟩
   rw [z0v, hl, e1, List.append_assoc, ← List.drop_drop, List.take_append_drop]
  ·cases h
theorem z92 {t : Bs} {p : Nat} {l r : Bs} (hl : l.length ≤ 20000) (h : t.drop p = z0v l ++ r) : z0s t p = some (l, p + (z0v l).length) := by
 have hr : z0B t p = some (l.length, p + (z0r l.length).length) := zbN (r := l ++ r) (by omega) (by rw [h, z0v, List.append_assoc])
 have hd : t.drop (p + (z0r l.length).length) = l ++ r := by rw [← List.drop_drop, h, z0v, List.append_assoc, List.drop_left]
 have hlen := congrArg List.length hd
 simp at hlen
 rw [z0s, hr]
 simp only
 rw [if_pos ⟨hl, by omega⟩, hd, List.take_left, z0v, List.length_append]
 simp; omega
def numS (t : Bs) (p : Nat) (bad : Bool) : Nat × Nat × Bool := if bad = true then (0, p, true) else z0W t p false
def z1m (t : Bs) (p : Nat) (bad : Bool) : Bs × Nat × Bool := if bad = true then ([], p, true) else z0F t p false
theorem z51 (t : Bs) (p : Nat) : (z0W t p true).2.2 = true := by unfold z0W; split <;> rfl
theorem z4w (t : Bs) (p : Nat) : (z0F t p true).2.2 = true := by unfold z0F; split <;> rfl
theorem zg4 (t : Bs) (p : Nat) : numS t p false = z0W t p false := rfl
theorem z73 (t : Bs) (p : Nat) : z1m t p false = z0F t p false := rfl
theorem zg5 {t : Bs} {p n q : Nat} {b : Bool} (h : z0W t p b = (n, q, false)) : b = false ∧ n ≤ 1000000000 ∧ t.drop p = z0r n ++ t.drop q ∧ q = p + (z0r n).length := by
 unfold z0W at h
 rcases hr : z0B t p with _ | ⟨m, c⟩
 ·rw [hr] at h; simp at h
 ·rw [hr] at h
  simp at h
  obtain ⟨rfl, rfl, rfl⟩ := h
  exact ⟨rfl, (z0U hr).2.2.2, z4v hr⟩
theorem z3o {t : Bs} {p q : Nat} {l : Bs} {b : Bool} (h : z0F t p b = (l, q, false)) : b = false ∧ l.length ≤ 20000 ∧ t.drop p = z0v l ++ t.drop q ∧ q = p + (z0v l).length := by
 unfold z0F at h
 rcases hr : z0s t p with _ | ⟨m, c⟩
 ·rw [hr] at h; simp at h
 ·rw [hr] at h
  simp at h
  obtain ⟨rfl, rfl, rfl⟩ := h
  exact ⟨rfl, (z3A hr).2.2, z91 hr⟩
theorem z74 {t : Bs} {p : Nat} {l r : Bs} (hl : l.length ≤ 20000) (h : t.drop p = z0v l ++ r) (b : Bool) : z0F t p b = (l, p + (z0v l).length, b) := by
 rw [z0F, z92 hl h]
theorem zg6 {t : Bs} {p : Nat} {bad : Bool} (hp : p ≤ t.length) : (numS t p bad).2.1 ≤ t.length ∧ (numS t p bad).1 ≤ 1000000000 := by
 unfold numS; split
 ·exact ⟨hp, by simp⟩
 ·exact z2d hp
theorem zad {t : Bs} {p : Nat} {bad : Bool} (hp : p ≤ t.length) : (z1m t p bad).2.1 ≤ t.length ∧ (z1m t p bad).1.length ≤ 20000 := by
 unfold z1m; split
 ·exact ⟨hp, by simp⟩
 ·exact z33 hp
end Go.Proofs.YtnhcfmmdaihneaaGreatDoor.Pl
namespace Go.Proofs.YtnhcfmmdaihneaaGreatDoor.Pl
set_option linter.unusedVariables false
set_option linter.unusedSimpArgs false
set_option linter.unusedSectionVars false
def inB (n lo hi : Int) : Bool := decide (lo ≤ n) && decide (n ≤ hi)
theorem z0T {n lo hi : Int} : inB n lo hi = true ↔ lo ≤ n ∧ n ≤ hi := by simp [inB]
theorem z93 {t : Bs} {p : Nat} {b : Bool} (hp : p ≤ t.length) : (z6b t p b).2.1 ≤ t.length ∧ (z6b t p b).1 ≤ 255 := by
 unfold z6b z0E
 split
 ·rename_i h
  split at h
  ·injection h with h1 h2; injection h2 with h2 h3; subst h2; simp [hp]
  ·rename_i hc
   injection h with h1 h2; injection h2 with h2 h3; subst h2
   simp; omega
 ·rename_i x l q b' h
  split at h
  ·injection h with h1 h2; cases h1
  ·rename_i hc
   injection h with h1 h2; injection h2 with h2 h3; subst h2
   have := x.toNat_lt
   simp; omega
theorem z75 {t : Bs} {p q n : Nat} {b : Bool} (h : z6b t p b = (n, q, false)) : b = false ∧ q = p + 1 ∧ ∃ x : UInt8, x.toNat = n ∧ t.drop p = x :: t.drop q := by
 unfold z6b z0E at h
 split at h
 ·rename_i h2
  split at h2
  ·injection h2 with h3 h4; injection h4 with h4 h5; subst h5; simp at h
  ·rename_i hc
   injection h2 with h3 h4
   exfalso
   have hl := congrArg List.length h3
   simp at hl hc
   omega
 ·rename_i x l q' b' h2
  split at h2
  ·injection h2 with h3 h4; cases h3
  ·rename_i hc
   injection h2 with h3 h4; injection h4 with h4 h5
   simp at h
   obtain ⟨rfl, rfl, rfl⟩ := h
   subst h4
   refine ⟨h5, rfl, x, rfl, ?_⟩
   rcases hd : t.drop p with _ | ⟨y, r⟩
   ·rw [hd] at h3; simp at h3
   ·rw [hd] at h3
    simp at h3
    rw [h3.1, ← List.drop_drop, hd]; rfl
abbrev Lt := Nat × Nat × Nat × Nat × Nat × Bs
end Go.Proofs.YtnhcfmmdaihneaaGreatDoor.Pl
namespace Go.Proofs.YtnhcfmmdaihneaaGreatDoor.Pl
set_option linter.unusedVariables false
set_option linter.unusedSimpArgs false
set_option linter.unusedSectionVars false
abbrev Lf := Bs × Bs
def ltB (a b : Bs) : Bool := Op.bytesLess a b
def lfAt (l : List Lf) (i : Nat) : Lf := l.getD i ([], [])
def z21 (l : List Lf) (i : Nat) : Bool := z1j (lfAt l i).1 && z1a (lfAt l i).2 && (i == 0 || ltB (lfAt l (i - 1)).1 (lfAt l i).1)
def z0k (l : List Lf) : Bool := decide (l.length ≤ 24) && (List.range l.length).all (z21 l)
theorem z61 {l : List Lf} {k : Nat} (hk : k < l.length) (h : z21 l k = false) : z0k l = false := by
 have : (List.range l.length).all (z21 l) = false := by
  rw [List.all_eq_false]
  exact ⟨k, List.mem_range.2 hk, by simp [h]⟩
 rw [z0k, this, Bool.and_false]
theorem z52 {l : List Lf} (h : 24 < l.length) : z0k l = false := by
 have : decide (l.length ≤ 24) = false := by simp; omega
 rw [z0k, this, Bool.false_and]
theorem z3p {l : List Lf} (hl : l.length ≤ 24) (h : ∀ k, k < l.length → z21 l k = true) : z0k l = true := by
 have h1 : decide (l.length ≤ 24) = true := by simpa using hl
 have h2 : (List.range l.length).all (z21 l) = true := List.all_eq_true.2 fun k hk => h k (List.mem_range.1 hk)
 rw [z0k, h1, h2]; rfl
theorem z62 {l : List Lf} : z0k l = true ↔ l.length ≤ 24 ∧ ∀ k, k < l.length → z21 l k = true := by
 constructor
 ·intro h
  rw [z0k, Bool.and_eq_true, decide_eq_true_iff, List.all_eq_true] at h
  exact ⟨h.1, fun k hk => h.2 k (List.mem_range.2 hk)⟩
 ·rintro ⟨h1, h2⟩; exact z3p h1 h2
def decG (k : Nat) (out : Bs) : Bs := if k = 0 then out else decG (k / 10) (UInt8.ofNat (48 + k % 10) :: out)
termination_by k
decreasing_by omega
theorem zae (out : Bs) : decG 0 out = out := by rw [decG, if_pos rfl]
theorem zaf {k : Nat} (h : k ≠ 0) (out : Bs) : decG k out = decG (k / 10) (UInt8.ofNat (48 + k % 10) :: out) := by rw [decG, if_neg h]
def z0p (k : Nat) : Bs := if k = 0 then [109, 48] else 109 :: decG k []
abbrev Sh := Nat → Bool → Bs × Nat × Bool
def z63 (sh : Sh) : Nat → Nat → Bool → List Lf × Nat × Bool
 | 0, p, b => ([], p, b)
 | _ + 1, p, true => ([], p, true)
 | n + 1, p, false => (((sh p false).1, (sh (sh p false).2.1 (sh p false).2.2).1) :: (z63 sh n (sh (sh p false).2.1 (sh p false).2.2).2.1 (sh (sh p false).2.1 (sh p false).2.2).2.2).1,
     (z63 sh n (sh (sh p false).2.1 (sh p false).2.2).2.1 (sh (sh p false).2.1 (sh p false).2.2).2.2).2)
def LvAt (sh : Sh) (R : List Lf × Nat × Bool) (n : Nat) (l : List Lf) (q : Nat) (b : Bool) : Prop := R = (l ++ (z63 sh n q b).1, (z63 sh n q b).2)
theorem LvAt.start (sh : Sh) (n q : Nat) (b : Bool) : LvAt sh (z63 sh n q b) n [] q b := rfl
theorem LvAt.step {sh : Sh} {R : List Lf × Nat × Bool} {n q q1 q2 : Nat} {l : List Lf} {a v : Bs} {b1 b2 : Bool} (h : LvAt sh R (n + 1) l q false) (h1 : sh q false = (a, q1, b1)) (h2 : sh q1 b1 = (v, q2, b2)) : LvAt sh R n (l ++ [(a, v)]) q2 b2 := by
 unfold LvAt at h ⊢
 rw [h, z63, h1]
 simp only [h2]
 simp
theorem LvAt.done {sh : Sh} {R : List Lf × Nat × Bool} {q : Nat} {l : List Lf} {b : Bool} (h : LvAt sh R 0 l q b) : R = (l, q, b) := by
 unfold LvAt at h; rw [h, z63]; simp
theorem LvAt.bad {sh : Sh} {R : List Lf × Nat × Bool} {n q : Nat} {l : List Lf} (h : LvAt sh R n l q true) : R = (l, q, true) := by
 unfold LvAt at h; rw [h]
 cases n <;> simp [z63]
end Go.Proofs.YtnhcfmmdaihneaaGreatDoor.Pl
namespace Go.Proofs.YtnhcfmmdaihneaaGreatDoor.Pl
set_option linter.unusedVariables false
set_option linter.unusedSimpArgs false
set_option linter.unusedSectionVars false
end Go.Proofs.YtnhcfmmdaihneaaGreatDoor.Pl
namespace Go.Proofs.YtnhcfmmdaihneaaGreatDoor.Pl
set_option linter.unusedVariables false
set_option linter.unusedSimpArgs false
set_option linter.unusedSectionVars false
def z1r (l : List Lf) (n : Bs) : Option Bs := (l.find? fun x => x.1 == n).map (·.2)
def z0X (l : List Lf) (n : Bs) : List Lf := l.filter fun x => x.1 != n
theorem zag {l : List Lf} {k : Nat} (h : k < l.length) : lfAt l k = l[k] := by simp [lfAt, List.getD, List.getElem?_eq_getElem h]
theorem z53 (l : List Lf) (k : Nat) (h : k < l.length) : l.take (k + 1) = l.take k ++ [lfAt l k] := by
 rw [List.take_add_one, List.getElem?_eq_getElem h, zag h]; rfl
theorem zdm {l : List Lf} {k : Nat} {n : Bs} (h : k < l.length) (hx : z1r (l.take k) n = none) (hne : (lfAt l k).1 ≠ n) : z1r (l.take (k + 1)) n = none := by
 rw [z53 l k h]
 simp only [z1r, Option.map_eq_none_iff] at hx ⊢
 rw [List.find?_append, hx]
 simp [hne]
theorem zdn {l : List Lf} {k : Nat} {n : Bs} (h : k < l.length) (hx : z1r (l.take k) n = none) (he : (lfAt l k).1 = n) : z1r l n = some (lfAt l k).2 := by
 have e : z1r l n = z1r (l.take (k + 1) ++ l.drop (k + 1)) n := by rw [List.take_append_drop]
 rw [e, z53 l k h]
 simp only [z1r, Option.map_eq_none_iff] at hx ⊢
 rw [List.find?_append, List.find?_append, hx]
 simp [he]
theorem z4x {f : Lf → Bool} {l : List Lf} {k : Nat} (h : k < l.length) : (l.take (k + 1)).filter f = (l.take k).filter f ++ (if f (lfAt l k) = true then [lfAt l k] else []) := by
 rw [z53 l k h, List.filter_append]
 congr 1
 cases hf : f (lfAt l k) <;> simp [hf]
theorem z3R {l : List Lf} {k : Nat} {n : Bs} (h : k < l.length) : z0X (l.take (k + 1)) n = z0X (l.take k) n ++ (if (lfAt l k).1 = n then [] else [lfAt l k]) := by
 unfold z0X
 rw [z4x h]
 by_cases he : (lfAt l k).1 = n <;> simp [he]
def lowL (l : List Lf) (n : Bs) : List Lf := l.filter fun x => ltB x.1 n
def z4y (l : List Lf) (n : Bs) : List Lf := l.filter fun x => !(ltB x.1 n || decide (x.1 = n))
def putL (l : List Lf) (n v : Bs) : List Lf := lowL (z0X l n) n ++ [(n, v)] ++ z4y (z0X l n) n
def putR (l : List Lf) (n v : Bs) : List Lf × Bool := bif z0k l && z0k (putL l n v) then (putL l n v, true) else (l, false)
def insS (n v : Bs) (s : List Lf × Bool) (x : Lf) : List Lf × Bool :=
 ((bif !s.2 && !ltB x.1 n then s.1 ++ [(n, v)] else s.1) ++ (if x.1 = n then [] else [x]), s.2 || !ltB x.1 n)
def insF (l : List Lf) (n v : Bs) : List Lf × Bool := l.foldl (insS n v) ([], false)
def insL (l : List Lf) (n v : Bs) : List Lf := bif (insF l n v).2 then (insF l n v).1 else (insF l n v).1 ++ [(n, v)]
def insR (l : List Lf) (n v : Bs) : List Lf × Bool := bif z0k l && z0k (insL l n v) then (insL l n v, true) else (l, false)
theorem zg7 {l : List Lf} {k : Nat} {n v : Bs} (h : k < l.length) : insF (l.take (k + 1)) n v = insS n v (insF (l.take k) n v) (lfAt l k) := by
 rw [z53 l k h]; simp [insF]
theorem zdo (n v : Bs) : ∀ (l : List Lf) (k : Nat), (insF (l.take k) n v).1.length ≤ 2 * k := by
 have : ∀ (l : List Lf) (s : List Lf × Bool), (l.foldl (insS n v) s).1.length ≤ s.1.length + 2 * l.length := by
  intro l
  induction l with
  | nil => intro s; simp
  | cons x l ih =>
    intro s
    have := ih (insS n v s x)
    have h2 : (insS n v s x).1.length ≤ s.1.length + 2 := by
     simp only [insS, List.length_append]
     have a : (bif !s.2 && !ltB x.1 n then s.1 ++ [(n, v)] else s.1).length ≤ s.1.length + 1 := by
      cases (!s.2 && !ltB x.1 n) <;> simp
     have b : (if x.1 = n then ([] : List Lf) else [x]).length ≤ 1 := by split <;> simp
     omega
    simp only [List.foldl_cons, List.length_cons]
    omega
 intro l k
 have h := this (l.take k) ([], false)
 simp only [List.length_nil, Nat.zero_add, List.length_take] at h
 have : min k l.length ≤ k := Nat.min_le_left _ _
 unfold insF
 omega
def z4z (l : List Lf) (n : Bs) : List Lf × Bool := bif (z1r l n).isSome && z0k l then (z0X l n, true) else (l, false)
theorem zg8 {l : List Lf} {k : Nat} {n : Bs} (h : k < l.length) : lowL (l.take (k + 1)) n = lowL (l.take k) n ++ (if ltB (lfAt l k).1 n = true then [lfAt l k] else []) := z4x h
theorem zeu {l : List Lf} {k : Nat} {n : Bs} (h : k < l.length) : z4y (l.take (k + 1)) n = z4y (l.take k) n ++ (if (!(ltB (lfAt l k).1 n || decide ((lfAt l k).1 = n))) = true then [lfAt l k] else []) := z4x h
end Go.Proofs.YtnhcfmmdaihneaaGreatDoor.Pl
namespace Go.Proofs.YtnhcfmmdaihneaaGreatDoor.Pl
set_option linter.unusedVariables false
set_option linter.unusedSimpArgs false
set_option linter.unusedSectionVars false
theorem z76 (a : Bs) : ltB a [] = false := by cases a <;> rfl
theorem zg9 (a b : UInt8) (x y : Bs) : ltB (a :: x) (b :: y) = (decide (a < b) || (a == b && ltB x y)) := rfl
theorem lt_irrefl : ∀ a : Bs, ltB a a = false
 | [] => rfl
 | a :: x => by rw [zg9, lt_irrefl x]; simp
theorem lt_trans : ∀ {a b c : Bs}, ltB a b = true → ltB b c = true → ltB a c = true
 | _, [], _, h, _ => by rw [z76] at h; cases h
 | _, _, [], _, h => by rw [z76] at h; cases h
 | [], _ :: _, _ :: _, _, _ => rfl
 | a :: x, b :: y, c :: z, h, k => by
   rw [zg9] at h k ⊢
   simp only [Bool.or_eq_true, decide_eq_true_eq, Bool.and_eq_true, beq_iff_eq] at h k ⊢
   rcases h with h | ⟨rfl, h⟩
   ·rcases k with k | ⟨rfl, k⟩
    ·exact .inl (UInt8.lt_trans h k)
    ·exact .inl h
   ·rcases k with k | ⟨rfl, k⟩
    ·exact .inl k
    ·exact .inr ⟨rfl, lt_trans h k⟩
def Sorted (l : List Lf) : Prop := l.Pairwise fun a b => ltB a.1 b.1 = true
theorem z3S {l : List Lf} (h : z0k l = true) : l.length ≤ 24 ∧ (∀ x ∈ l, z1j x.1 = true ∧ z1a x.2 = true) ∧ Sorted l := by
 obtain ⟨h1, h2⟩ := z62.1 h
 have st : ∀ k (hk : k < l.length), z1j l[k].1 = true ∧ z1a l[k].2 = true ∧ (k = 0 ∨ ltB (lfAt l (k - 1)).1 l[k].1 = true) := fun k hk => by
  have := h2 k hk
  rw [z21, zag hk] at this
  simpa [and_assoc] using this
 refine ⟨h1, fun x hx => ?_, ?_⟩
 ·obtain ⟨k, hk, rfl⟩ := List.getElem_of_mem hx
  exact ⟨(st k hk).1, (st k hk).2.1⟩
 ·rw [Sorted, List.pairwise_iff_getElem]
  intro i j hi hj hij
  have key : ∀ d, (h : i + d + 1 < l.length) → ltB l[i].1 l[i + d + 1].1 = true := by
   intro d
   induction d with
   | zero =>
     intro h
     have := ((st (i + 1) h).2.2).resolve_left (by omega)
     rwa [Nat.add_sub_cancel, zag hi] at this
   | succ d ih =>
     intro h
     have a := ih (by omega)
     have b := ((st (i + (d + 1) + 1) h).2.2).resolve_left (by omega)
     rw [Nat.add_sub_cancel, zag (show i + (d + 1) < l.length by omega)] at b
     exact lt_trans a b
  have := key (j - i - 1) (by omega)
  simpa [show i + (j - i - 1) + 1 = j by omega] using this
theorem zga {l : List Lf} (h1 : l.length ≤ 24) (h2 : ∀ x ∈ l, z1j x.1 = true ∧ z1a x.2 = true) (h3 : Sorted l) : z0k l = true := by
 refine z62.2 ⟨h1, fun k hk => ?_⟩
 rw [z21, zag hk, (h2 _ (List.getElem_mem hk)).1, (h2 _ (List.getElem_mem hk)).2]
 cases k with
 | zero => rfl
 | succ k =>
   rw [Nat.add_sub_cancel, zag (show k < l.length by omega)]
   have := (List.pairwise_iff_getElem.1 h3) k (k + 1) (by omega) hk (by omega)
   rw [this]; rfl
theorem Sorted.filter {l : List Lf} (h : Sorted l) (f : Lf → Bool) : Sorted (l.filter f) := List.Pairwise.filter _ h
theorem z3q {l : List Lf} {n : Bs} {x : Lf} : x ∈ z0X l n ↔ x ∈ l ∧ x.1 ≠ n := by simp [z0X]
theorem zkA {l : List Lf} {n : Bs} {x : Lf} : x ∈ lowL l n ↔ x ∈ l ∧ ltB x.1 n = true := by simp [lowL]
theorem ziy {l : List Lf} {n : Bs} {x : Lf} : x ∈ z4y l n ↔ x ∈ l ∧ ltB x.1 n = false ∧ x.1 ≠ n := by simp [z4y]
theorem zkB {l : List Lf} {n v : Bs} {x : Lf} : x ∈ putL l n v ↔ x = (n, v) ∨ (x ∈ l ∧ x.1 ≠ n) := by
 rw [putL, List.mem_append, List.mem_append, zkA, ziy, z3q, List.mem_singleton]
 constructor
 ·rintro ((h | h) | h)
  ·exact .inr h.1
  ·exact .inl h
  ·exact .inr h.1
 ·rintro (h | h)
  ·exact .inl (.inr h)
  ·cases hl : ltB x.1 n
   ·exact .inr ⟨h, rfl, h.2⟩
   ·exact .inl (.inl ⟨h, rfl⟩)
theorem zah {n v : Bs} : ∀ {l acc : List Lf}, l.foldl (insS n v) (acc, true) = (acc ++ z0X l n, true)
 | [], acc => by simp [z0X]
 | x :: l, acc => by
   rw [List.foldl_cons]
   have e : insS n v (acc, true) x = (acc ++ (if x.1 = n then [] else [x]), true) := by simp [insS]
   rw [e, zah]
   by_cases h : x.1 = n <;> simp [z0X, h]
theorem z8k {n v : Bs} : ∀ {l acc : List Lf}, Sorted l → (bif (l.foldl (insS n v) (acc, false)).2 then (l.foldl (insS n v) (acc, false)).1 else (l.foldl (insS n v) (acc, false)).1 ++ [(n, v)]) = acc ++ putL l n v
 | [], acc, _ => by simp [putL, z0X, lowL, z4y]
 | x :: l, acc, h => by
   obtain ⟨h1, h2⟩ := List.pairwise_cons.1 h
   rw [List.foldl_cons]
   cases hx : ltB x.1 n
   ·have e : insS n v (acc, false) x = (acc ++ [(n, v)] ++ (if x.1 = n then [] else [x]), true) := by simp [insS, hx]
    rw [e, zah]
    have hge : ∀ y ∈ z0X (x :: l) n, ltB y.1 n = false := fun y hy => by
     rcases List.mem_cons.1 (z3q.1 hy).1 with rfl | hm
     ·exact hx
     ·cases hc : ltB y.1 n
      ·rfl
      ·rw [lt_trans (h1 y hm) hc] at hx; cases hx
    have hne : ∀ y ∈ z0X (x :: l) n, y.1 ≠ n := fun y hy => (z3q.1 hy).2
    have elow : lowL (z0X (x :: l) n) n = [] := by
     rw [lowL, List.filter_eq_nil_iff]
     intro y hy; rw [hge y hy]; simp
    have ehigh : z4y (z0X (x :: l) n) n = z0X (x :: l) n := by
     rw [z4y, List.filter_eq_self]
     intro y hy; rw [hge y hy]; simp [hne y hy]
    rw [putL, elow, ehigh, cond_true]
    by_cases he : x.1 = n <;> simp [z0X, he]
   ·have hne : x.1 ≠ n := fun e => by rw [e, lt_irrefl] at hx; cases hx
    have e : insS n v (acc, false) x = (acc ++ [x], false) := by simp [insS, hx, hne]
    rw [e, z8k (l := l) h2]
    have e2 : putL (x :: l) n v = x :: putL l n v := by simp [putL, z0X, lowL, z4y, hx, hne]
    rw [e2]; simp
theorem zgb {l : List Lf} {n v : Bs} (h : Sorted l) : insL l n v = putL l n v := by
 have := z8k (n := n) (v := v) (acc := []) h
 rw [List.nil_append] at this
 exact this
theorem zev {l : List Lf} {n : Bs} (h : z0k l = true) : z0k (z0X l n) = true := by
 obtain ⟨h1, h2, h3⟩ := z3S h
 exact zga (Nat.le_trans (List.length_filter_le _ _) h1) (fun x hx => h2 x (z3q.1 hx).1) (h3.filter _)
theorem z2C {s : Bs} (h : z1j s = true) : s.length ≤ 12 := by
 simp [z1j, allN] at h; exact h.1.2
theorem z3r {s : Bs} (h : z1a s = true) : s.length ≤ 12 := by
 simp [z1a, allN] at h; exact h.1.2
end Go.Proofs.YtnhcfmmdaihneaaGreatDoor.Pl
namespace Go.Proofs.YtnhcfmmdaihneaaGreatDoor.Pl
set_option linter.unusedVariables false
set_option linter.unusedSimpArgs false
set_option linter.unusedSectionVars false
def z27 (t : Bs) (w : Nat) : Nat → Nat → Bool → List Bs × Nat × Bool
 | 0, p, b => ([], p, b)
 | n + 1, p, b => ((z0E t p b w).1 :: (z27 t w n (z0E t p b w).2.1 (z0E t p b w).2.2).1, (z27 t w n (z0E t p b w).2.1 (z0E t p b w).2.2).2)
theorem z77 (t : Bs) (p w : Nat) : z0E t p true w = ([], p, true) := by simp [z0E]
theorem zai (t : Bs) (w : Nat) : ∀ (n p : Nat), (z27 t w n p true).2.2 = true
 | 0, p => rfl
 | n + 1, p => by simp only [z27, z77]; exact zai t w n p
theorem z54 {t : Bs} {w : Nat} : ∀ {n p q : Nat} {b : Bool} {s : List Bs}, z27 t w n p b = (s, q, false) → p ≤ t.length → b = false ∧ s.length = n ∧ (∀ x ∈ s, x.length = w) ∧ q ≤ t.length ∧ t.drop p = s.flatten ++ t.drop q
 | 0, p, q, b, s, h, hp => by
   simp only [z27, Prod.mk.injEq] at h
   obtain ⟨rfl, rfl, rfl⟩ := h
   exact ⟨rfl, rfl, fun x hx => absurd hx (List.not_mem_nil), hp, by simp⟩
 | n + 1, p, q, b, s, h, hp => by
   by_cases hc : b = true ∨ t.length - p < w
   ·have e : z0E t p b w = ([], p, true) := by rw [z0E, if_pos hc]
    simp only [z27, e] at h
    have := zai t w n p
    have h2 := congrArg (fun x => x.2.2) h
    simp only at h2
    rw [this] at h2; cases h2
   ·have e : z0E t p b w = ((t.drop p).take w, p + w, b) := by rw [z0E, if_neg hc]
    have hb : b = false := by cases b <;> simp at hc ⊢
    have hw : ¬ t.length - p < w := fun h => hc (.inr h)
    simp only [z27, e] at h
    rcases hR : z27 t w n (p + w) b with ⟨s', q', b'⟩
    rw [hR] at h
    simp only [Prod.mk.injEq] at h
    obtain ⟨rfl, rfl, rfl⟩ := h
    obtain ⟨_, i2, i3, i4, i5⟩ := z54 hR (by omega)
    refine ⟨hb, by simp [i2], fun x hx => ?_, i4, ?_⟩
    ·rcases List.mem_cons.1 hx with rfl | hx
     ·simp; omega
     ·exact i3 x hx
    ·rw [List.flatten_cons, List.append_assoc, ← i5, ← List.drop_drop, List.take_append_drop]
theorem z55 {t : Bs} {w : Nat} : ∀ {s : List Bs} {p : Nat} {r : Bs}, (∀ x ∈ s, x.length = w) → t.drop p = s.flatten ++ r → z27 t w s.length p false = (s, p + s.flatten.length, false)
 | [], p, r, _, _ => by simp [z27]
 | x :: s, p, r, hs, h => by
   have hx := hs x (by simp)
   have hl := congrArg List.length h
   simp at hl
   have e : z0E t p false w = (x, p + w, false) := by
    rw [z0E, if_neg (by simp; omega), h, List.flatten_cons, List.append_assoc, ← hx, List.take_left]
   have hd : t.drop (p + w) = s.flatten ++ r := by rw [← List.drop_drop, h, List.flatten_cons, List.append_assoc, ← hx, List.drop_left]
   have ih := z55 (fun y hy => hs y (by simp [hy])) hd
   rw [List.length_cons, z27, e]
   simp only [ih]
   simp [hx]; omega
def z30 (s : List Bs) (w : Int) : Bool := s.all (fun x => decide ((x.length : Int) = w)) && inB w 1 32
end Go.Proofs.YtnhcfmmdaihneaaGreatDoor.Pl
namespace Go.Proofs.YtnhcfmmdaihneaaGreatDoor.Pl
set_option linter.unusedVariables false
set_option linter.unusedSimpArgs false
set_option linter.unusedSectionVars false
def shlN (x : UInt32) (n : Nat) : UInt32 := UInt32.ofNat (x.toNat * 2 ^ n)
def shrN (x : UInt32) (n : Nat) : UInt32 := UInt32.ofNat (x.toNat / 2 ^ n)
def o8 (b : UInt8) : UInt32 := UInt32.ofNat b.toNat
def z2r (x : UInt32) (n : Nat) : UInt32 := shrN x n ||| shlN x (32 - n)
def ziH (b : Bs) (i : Nat) : UInt32 := shlN (o8 (b.getD (4 * i) 0)) 24 ||| shlN (o8 (b.getD (4 * i + 1) 0)) 16 ||| shlN (o8 (b.getD (4 * i + 2) 0)) 8 ||| o8 (b.getD (4 * i + 3) 0)
def upd (f : Nat → UInt32) (i : Nat) (x : UInt32) : Nat → UInt32 := fun j => bif Nat.beq j i then x else f j
def z3B (b : Bs) (i : Nat) : Nat → UInt32 := (List.range i).foldl (fun ws k => upd ws k (ziH b k)) (fun _ => 0)
def z5a (ws : Nat → UInt32) (i : Nat) : Nat → UInt32 :=
 upd ws i (ws (i - 16) + (z2r (ws (i - 15)) 7 ^^^ z2r (ws (i - 15)) 18 ^^^ shrN (ws (i - 15)) 3) + ws (i - 7) + (z2r (ws (i - 2)) 17 ^^^ z2r (ws (i - 2)) 19 ^^^ shrN (ws (i - 2)) 10))
def z3a (ws : Nat → UInt32) (i : Nat) : Nat → UInt32 := (List.range (i - 16)).foldl (fun ws k => z5a ws (k + 16)) ws
structure W8 where
 a : UInt32
 b : UInt32
 c : UInt32
 d : UInt32
 e : UInt32
 f : UInt32
 g : UInt32
 h : UInt32
def W8.list (s : W8) : List UInt32 := [s.a, s.b, s.c, s.d, s.e, s.f, s.g, s.h]
def rnd (s : W8) (k w : UInt32) : W8 :=
 let one := s.h + (z2r s.e 6 ^^^ z2r s.e 11 ^^^ z2r s.e 25) + (s.e &&& s.f ^^^ (s.e ^^^ 4294967295) &&& s.g) + k + w
 let two := (z2r s.a 2 ^^^ z2r s.a 13 ^^^ z2r s.a 22) + (s.a &&& s.b ^^^ s.a &&& s.c ^^^ s.b &&& s.c)
 ⟨one + two, s.a, s.b, s.c, s.d + one, s.e, s.f, s.g⟩
def rnds (s : W8) (ks ws : Nat → UInt32) (i : Nat) : W8 := (List.range i).foldl (fun s j => rnd s (ks j) (ws j)) s
def addW (h s : Nat → UInt32) (i : Nat) : Nat → UInt32 := (List.range i).foldl (fun l j => upd l j (l j + s j)) h
def W8.fn (s : W8) : Nat → UInt32 := fun j => s.list.getD j 0
def add8 (h s : W8) : W8 := ⟨h.a + s.a, h.b + s.b, h.c + s.c, h.d + s.d, h.e + s.e, h.f + s.f, h.g + s.g, h.h + s.h⟩
def z8o (h : W8) (b : Bs) (ks : Nat → UInt32) : W8 := add8 h (rnds h ks (z3a (z3B b 16) 64) 64)
theorem z7d (b : Bs) (i : Nat) : z3B b (i + 1) = upd (z3B b i) i (ziH b i) := by simp [z3B, List.range_succ]
theorem z7e {ws : Nat → UInt32} {i : Nat} (h : 16 ≤ i) : z3a ws (i + 1) = z5a (z3a ws i) i := by
 rw [z3a, z3a, show i + 1 - 16 = (i - 16) + 1 by omega, List.range_succ, List.foldl_append]
 simp [show i - 16 + 16 = i by omega]
theorem zas (s : W8) (ks ws : Nat → UInt32) (i : Nat) : rnds s ks ws (i + 1) = rnd (rnds s ks ws i) (ks i) (ws i) := by simp [rnds, List.range_succ]
theorem z7f (h s : Nat → UInt32) (i : Nat) : addW h s (i + 1) = upd (addW h s i) i (addW h s i i + s i) := by simp [addW, List.range_succ]
theorem z9b (h s : Nat → UInt32) : ∀ (i j : Nat), addW h s i j = if j < i then h j + s j else h j
 | 0, j => rfl
 | i + 1, j => by
   rw [z7f, upd, z9b h s i, z9b h s i]
   by_cases hj : j = i
   ·subst hj; simp
   ·have : Nat.beq j i = false := by
     cases hb : Nat.beq j i with
     | false => rfl
     | true => exact absurd (Nat.eq_of_beq_eq_true hb) hj
    rw [this, cond_false]
    by_cases h1 : j < i
    ·rw [if_pos h1, if_pos (by omega)]
    ·rw [if_neg h1, if_neg (by omega)]
def z14 : Nat → Bs → Bs
 | 0, t => t
 | n + 1, t => if t.length % 64 = 56 then t else z14 n (t ++ [0])
def lenB (n : Nat) (i : Nat) : Bs := (List.range i).map fun j => UInt8.ofNat (n / 2 ^ (8 * (7 - j)))
def padB (t : Bs) : Bs := z14 64 (t ++ [128]) ++ lenB (8 * t.length) 8
def z2s (h : W8) (p : Bs) (ks : Nat → UInt32) (i : Nat) : W8 := (List.range i).foldl (fun h j => z8o h ((p.drop (64 * j)).take 64) ks) h
theorem z66 (h : W8) (p : Bs) (ks : Nat → UInt32) (i : Nat) : z2s h p ks (i + 1) = z8o (z2s h p ks i) ((p.drop (64 * i)).take 64) ks := by simp [z2s, List.range_succ]
def out4 (out : Bs) (x : UInt32) (i : Nat) : Bs :=
 (((out.set (4 * i) (UInt8.ofNat (shrN x 24).toNat)).set (4 * i + 1) (UInt8.ofNat (shrN x 16).toNat)).set (4 * i + 2) (UInt8.ofNat (shrN x 8).toNat)).set (4 * i + 3) (UInt8.ofNat x.toNat)
def outB (h : Nat → UInt32) (i : Nat) : Bs := (List.range i).foldl (fun out j => out4 out (h j) j) (List.replicate 32 0)
theorem zat (h : Nat → UInt32) (i : Nat) : outB h (i + 1) = out4 (outB h i) (h i) i := by simp [outB, List.range_succ]
theorem z9c (h : Nat → UInt32) : ∀ i, (outB h i).length = 32
 | 0 => rfl
 | i + 1 => by rw [zat]; simp only [out4, List.length_set]; exact z9c h i
def first8 : W8 := ⟨1779033703, 3144134277, 1013904242, 2773480762, 1359893119, 2600822924, 528734635, 1541459225⟩
def keys64 : List UInt32 := [1116352408, 1899447441, 3049323471, 3921009573, 961987163, 1508970993, 2453635748, 2870763221, 3624381080, 310598401, 607225278, 1426881987, 1925078388, 2162078206, 2614888103, 3248222580, 3835390401, 4022224774, 264347078, 604807628, 770255983, 1249150122, 1555081692, 1996064986, 2554220882, 2821834349, 2952996808, 3210313671, 3336571891, 3584528711, 113926993, 338241895, 666307205, 773529912, 1294757372, 1396182291, 1695183700, 1986661051, 2177026350, 2456956037, 2730485921, 2820302411, 3259730800, 3345764771, 3516065817, 3600352804, 4094571909, 275423344, 430227734, 506948616, 659060556, 883997877, 958139571, 1322822218, 1537002063, 1747873779, 1955562222, 2024104815, 2227730452, 2361852424, 2428436474, 2756734187, 3204031479, 3329325298]
def kF : Nat → UInt32 := fun j => keys64.getD j 0
def z2L (t : Bs) : Bs := outB (z2s first8 (padB t) kF ((padB t).length / 64)).fn 8
theorem z7g : ∀ (n : Nat) (t : Bs), (56 + 64 - t.length % 64) % 64 ≤ n → (z14 n t).length % 64 = 56 ∧ (z14 n t).length ≤ t.length + n
 | 0, t, h => by simp only [z14]; omega
 | n + 1, t, h => by
   simp only [z14]
   split
   ·omega
   ·have := z7g n (t ++ [0]) (by simp; omega)
    simp at this ⊢
    omega
theorem zdy (t : Bs) : (padB t).length % 64 = 0 ∧ (padB t).length ≤ t.length + 73 ∧ 64 ≤ (padB t).length := by
 have := z7g 64 (t ++ [128]) (by omega)
 simp only [padB, lenB, List.length_append, List.length_map, List.length_range, List.length_singleton] at this ⊢
 omega
theorem z2M (t : Bs) : (z2L t).length = 32 := z9c _ _
end Go.Proofs.YtnhcfmmdaihneaaGreatDoor.Pl
namespace Go.Proofs.YtnhcfmmdaihneaaGreatDoor.Pl
set_option linter.unusedVariables false
set_option linter.unusedSimpArgs false
set_option linter.unusedSectionVars false
theorem zdz : ∀ (n : Nat) (t : Bs), (56 + 64 - t.length % 64) % 64 ≤ n → z14 n t = t ++ List.replicate ((56 + 64 - t.length % 64) % 64) 0
 | 0, t, h => by
   have h0 : (56 + 64 - t.length % 64) % 64 = 0 := by omega
   simp [z14, h0]
 | n + 1, t, h => by
   simp only [z14]
   split
   ·have h0 : (56 + 64 - t.length % 64) % 64 = 0 := by omega
    simp [h0]
   ·have e : (56 + 64 - t.length % 64) % 64 = (56 + 64 - (t ++ [0]).length % 64) % 64 + 1 := by simp; omega
    rw [zdz n (t ++ [0]) (by omega), e, List.append_assoc, List.replicate_succ]
    rfl
def padI (t : Bs) : Bs := t ++ [128] ++ List.replicate ((119 - t.length % 64) % 64) 0 ++ lenB (8 * t.length) 8
theorem zkJ (t : Bs) : padI t = padB t := by
 have e : (56 + 64 - (t ++ [128]).length % 64) % 64 = (119 - t.length % 64) % 64 := by simp; omega
 rw [padI, padB, zdz 64 (t ++ [128]) (by omega), e]
def four (x : UInt32) : Bs := [UInt8.ofNat (shrN x 24).toNat, UInt8.ofNat (shrN x 16).toNat, UInt8.ofNat (shrN x 8).toNat, UInt8.ofNat x.toNat]
def outI (h : Nat → UInt32) (i : Nat) : Bs := (List.range i).flatMap fun j => four (h j)
theorem zau (h : Nat → UInt32) (i : Nat) : outI h (i + 1) = outI h i ++ four (h i) := by simp [outI, List.range_succ]
theorem zdA (h : Nat → UInt32) : ∀ i, (outI h i).length = 4 * i
 | 0 => rfl
 | i + 1 => by rw [zau, List.length_append, zdA h i]; simp [four]; omega
theorem zkK (h : Nat → UInt32) : outI h 8 = outB h 8 := by kernel_rfl
theorem zgv (x : UInt32) (n : Nat) : shlN x (32 - n) ||| shrN x n = z2r x n := UInt32.or_comm _ _
theorem xor_comm (a b : UInt32) : a ^^^ b = b ^^^ a := UInt32.xor_comm _ _
def ixB (s : Bs) : Nat := ((z2L s).getD 0 0).toNat
end Go.Proofs.YtnhcfmmdaihneaaGreatDoor.Pl
namespace Go.Proofs.YtnhcfmmdaihneaaGreatDoor.Pl
set_option linter.unusedVariables false
set_option linter.unusedSimpArgs false
set_option linter.unusedSectionVars false
def tagB (k : Nat) (ps : List Bs) : Bs := UInt8.ofNat k :: ps.flatMap z0v
def cutB (t : Bs) (w : Nat) : Bs := (z2L t).take w
def z2x (k : Nat) (ps : List Bs) (w : Nat) : Bs := cutB (tagB k ps) w
theorem ziI {t : Bs} {w : Nat} (h : w ≤ 32) : (cutB t w).length = w := by rw [cutB, List.length_take, z2M]; omega
theorem z5b {k : Nat} {ps : List Bs} {w : Nat} (h : w ≤ 32) : (z2x k ps w).length = w := ziI h
def partsB (l : List Lf) : List Bs := l.flatMap fun x => [x.1, x.2]
def zkL (l : List Lf) : Bs := if l = [] then tagB 1 [] else tagB 2 (partsB l)
def emB (w : Nat) : Nat → Bs
 | 0 => z2x 1 [] w
 | d + 1 => z2x 3 [emB w d, emB w d] w
def atP (l : List Lf) (d p : Nat) : List Lf := l.filter fun x => decide (ixB x.1 / 2 ^ d = p)
def zkM (l : List Lf) (w : Nat) : Nat → Nat → Bs
 | 0, p => cutB (zkL (atP l 0 p)) w
 | d + 1, p => if atP l (d + 1) p = [] then emB w (d + 1) else z2x 3 [zkM l w d (2 * p), zkM l w d (2 * p + 1)] w
def bitB (ix j : Nat) : Nat := ix / 2 ^ j % 2
def zkN (ix j : Nat) (h s : Bs) : List Bs := if bitB ix j = 1 then [s, h] else [h, s]
def zbW (ix w : Nat) : Nat → Bs → List Bs → List Bs × Bs
 | _, h, [] => ([], h)
 | j, h, s :: ss =>
   let t := tagB 3 (zkN ix j h s)
   (t :: (zbW ix w (j + 1) (cutB t w) ss).1, (zbW ix w (j + 1) (cutB t w) ss).2)
end Go.Proofs.YtnhcfmmdaihneaaGreatDoor.Pl
namespace Go.Proofs.YtnhcfmmdaihneaaGreatDoor.Pl
set_option linter.unusedVariables false
set_option linter.unusedSimpArgs false
set_option linter.unusedSectionVars false
abbrev Ch := Int × Bs × Bs
def z22 (l : List Lf) (u : Ch) : List Lf := bif u.2.2.isEmpty then (z4z l u.2.1).1 else (insR l u.2.1 u.2.2).1
def z3V (l : List Lf) (u : Ch) : List Lf := bif u.2.2.isEmpty then (z4z l u.2.1).1 else (putR l u.2.1 u.2.2).1
theorem ziE {l : List Lf} {n : Bs} (h : z0k l = true) : z0k (z4z l n).1 = true := by
 unfold z4z
 cases (z1r l n).isSome && z0k l
 ·exact h
 ·exact zev h
theorem zkH {l : List Lf} {n v : Bs} (h : z0k l = true) : z0k (insR l n v).1 = true := by
 unfold insR
 rw [h, Bool.true_and]
 cases h2 : z0k (insL l n v)
 ·exact h
 ·exact h2
theorem zaq {l : List Lf} {u : Ch} (h : z0k l = true) : z0k (z22 l u) = true := by
 unfold z22
 cases u.2.2.isEmpty
 ·exact zkH h
 ·exact ziE h
theorem zgq {l : List Lf} {n v : Bs} (h : z0k l = true) : insR l n v = putR l n v := by
 rw [insR, putR, zgb (z3S h).2.2]
theorem zgr {l : List Lf} {u : Ch} (h : z0k l = true) : z3V l u = z22 l u := by
 rw [z3V, z22, zgq h]
theorem zbT {us : List Ch} : ∀ {l : List Lf}, z0k l = true → z0k (us.foldl z22 l) = true := by
 induction us with
 | nil => exact fun h => h
 | cons u us ih => exact fun h => ih (zaq h)
theorem zgs {us : List Ch} : ∀ {l : List Lf}, z0k l = true → us.foldl z3V l = us.foldl z22 l := by
 induction us with
 | nil => exact fun _ => rfl
 | cons u us ih => intro l h; rw [List.foldl_cons, List.foldl_cons, zgr h]; exact ih (zaq h)
def ziF (l : List Lf) (n : Bs) : Bs × Bool := ((z1r l n).getD [], (z1r l n).isSome)
end Go.Proofs.YtnhcfmmdaihneaaGreatDoor.Pl
