/- Plain: the checksum. Plain: what is read is what was written, and the other way round. Plain: letters. Plain: entries. Entries, no program in sight: both readers agree. Plain: an entry is looked up, put, dropped. Plain: what holds of an entry that is put, and of one that is dropped; entries are read as they were written. Plain: proofs are read as they were written, by the program and by the reference alike. Plain: words of 32 bits, and the digest as the reference reckons it. Plain: the digest as the program reckons it is the reference's. Plain: the tree of hashes, and the way up from a bucket to the root. Plain: changes are applied one by one; the last change of a name counts. -/
import Derived.Test.YtkjjacndfieeoaaGreatDoorPlain
import Derived.Laws.BitsAllLaws
import Derived.KernelRfl
namespace Go.Proofs.YtkjjacndfieeoaaGreatDoor.Pl
set_option linter.unusedVariables false
set_option linter.unusedSimpArgs false
set_option linter.unusedSectionVars false
def zaJ (s : Nat) : Nat := if s % 2 = 1 then (s / 2) ^^^ 3558460437 else s / 2
def z4h : Nat → Nat → Nat
 | 0, s => s
 | n + 1, s => zaJ (z4h n s)
def z1Y (s : Nat) (l : Bs) : Nat := l.foldl (fun s b => z4h 8 (s ^^^ b.toNat)) s
def z1T (l : Bs) : Nat := z1Y 4294967295 l
theorem z7s {a b : Nat} (ha : (a : Int) ≤ 4294967295) (hb : (b : Int) ≤ 4294967295) : ((a ^^^ b : Nat) : Int) ≤ 4294967295 := by
 have : a ^^^ b < 2 ^ 32 := Nat.xor_lt_two_pow (by omega) (by omega)
 omega
theorem zgL {a : Nat} (ha : (a : Int) ≤ 4294967295) : ((zaJ a : Nat) : Int) ≤ 4294967295 := by
 unfold zaJ; split
 ·exact z7s (by omega) (by omega)
 ·omega
theorem zc6 {a : Nat} (ha : (a : Int) ≤ 4294967295) : ∀ n, ((z4h n a : Nat) : Int) ≤ 4294967295
 | 0 => ha
 | n + 1 => zgL (zc6 ha n)
theorem z4Z (s : Nat) (l : Bs) (b : UInt8) : z1Y s (l ++ [b]) = z4h 8 (z1Y s l ^^^ b.toNat) := by simp [z1Y]
theorem zdb {s : Nat} (hs : (s : Int) ≤ 4294967295) : ∀ l : Bs, ((z1Y s l : Nat) : Int) ≤ 4294967295 := by
 intro l
 unfold z1Y
 induction l generalizing s with
 | nil => exact hs
 | cons b l ih =>
   rw [List.foldl_cons]
   refine ih (zc6 (z7s hs ?_) 8)
   have := b.toNat_lt; omega
theorem z8p (l : Bs) : ((z1T l : Nat) : Int) ≤ 4294967295 := zdb (by omega) l
theorem z50 (s : ByteArray) (k : Nat) (h : k < s.size) : ∃ b : UInt8, b.toNat = nb s k ∧ s.data.toList.take (k + 1) = s.data.toList.take k ++ [b] := by
 obtain ⟨b, hb, hd⟩ := zam s k h
 refine ⟨b, hb, ?_⟩
 rw [List.take_add, hd]; rfl
theorem xr32 {a b : Nat} (ha : (a : Int) ≤ 4294967295) (hb : (b : Int) ≤ 4294967295) : bits .xor .u32 (a : Int) (b : Int) = ((a ^^^ b : Nat) : Int) := u32_xor_nat a b (by omega) (by omega)
theorem z9s {a : Nat} (ha : (a : Int) ≤ 4294967295) : bits .xor .u32 ((a : Int) / 2) 3558460437 = (((a / 2) ^^^ 3558460437 : Nat) : Int) := by
 have := xr32 (a := a / 2) (b := 3558460437) (by omega) (by omega)
 rw [← this]
 congr 1
theorem zc7 {y : Nat} (hy : (y : Int) ≤ 4294967295) : bits .and .u32 (y : Int) 1 = ((y % 2 : Nat) : Int) := by
 have := u32_and_nat y 1 (by omega) (by omega)
 rw [← nat_mask1, ← this]; rfl
def z1Z (x : Nat) : Bs := [UInt8.ofNat (x / 16777216), UInt8.ofNat (x / 65536), UInt8.ofNat (x / 256), UInt8.ofNat x]
theorem z2E (x : Nat) : (z1Z x).length = 4 := rfl
def zhK (t : Bs) : Bs := t ++ z1Z (z1T t)
def zgM (t : Bs) : Option Bs :=
 if 4 ≤ t.length ∧ t.length ≤ 20004 ∧ t.drop (t.length - 4) = z1Z (z1T (t.take (t.length - 4))) then some (t.take (t.length - 4)) else none
end Go.Proofs.YtkjjacndfieeoaaGreatDoor.Pl
namespace Go.Proofs.YtkjjacndfieeoaaGreatDoor.Pl
set_option linter.unusedVariables false
set_option linter.unusedSimpArgs false
set_option linter.unusedSectionVars false
theorem zc8 : ∀ (f k n : Nat) (r : Bs) (m c : Nat), rvGo f k n r = some (m, c) →
 ∃ (ds : Bs) (x : UInt8) (r' : Bs), r = ds ++ x :: r' ∧ (∀ d ∈ ds, 128 ≤ d.toNat) ∧ x.toNat < 128 ∧ c = k + ds.length + 1 ∧ m = n + val (ds ++ [x]) * 128 ^ k ∧ (x.toNat ≠ 0 ∨ (ds = [] ∧ k = 0))
 | 0, _, _, _, _, _, h => by cases h
 | _ + 1, _, _, [], _, _, h => by cases h
 | f + 1, k, n, x :: r, m, c, h => by
   rw [rvGo] at h
   split at h
   ·rename_i hx
    split at h
    ·cases h
    ·rename_i hb
     injection h with h; injection h with h1 h2
     refine ⟨[], x, r, rfl, by simp, hx, by simp; omega, ?_, ?_⟩
     ·have : val ([] ++ [x]) = x.toNat := by simp [val]; omega
      rw [this, z4F, h1]
     ·by_cases h0 : x.toNat = 0
      ·right; refine ⟨rfl, ?_⟩; omega
      ·exact .inl h0
   ·rename_i hx
    obtain ⟨ds, y, r', e, hd, hy, hc, hm, hz⟩ := zc8 f (k + 1) _ r m c h
    refine ⟨x :: ds, y, r', by rw [e]; rfl, ?_, hy, by rw [List.length_cons]; omega, ?_, ?_⟩
    ·intro d hd'
     rcases List.mem_cons.1 hd' with rfl | hd'
     ·omega
     ·exact hd d hd'
    ·rw [hm, List.cons_append, val, ← z4F, Nat.pow_succ]
     have e1 : val (ds ++ [y]) * (128 ^ k * 128) = 128 * val (ds ++ [y]) * 128 ^ k := by rw [Nat.mul_comm (128 ^ k) 128, ← Nat.mul_assoc, Nat.mul_comm (val _) 128]
     rw [e1, Nat.add_mul, Nat.add_assoc]
    ·rcases hz with hz | ⟨_, hz⟩
     ·exact .inl hz
     ·omega
theorem z69 {t : Bs} {p n q : Nat} (h : z0z t p = some (n, q)) : t.drop p = z0e n ++ t.drop q ∧ q = p + (z0e n).length := by
 have hb := z0R h
 unfold z0z at h
 rcases hg : rvGo 5 0 0 (t.drop p) with _ | ⟨m, c⟩
 ·rw [hg] at h; cases h
 ·rw [hg] at h
  simp at h
  obtain ⟨rfl, rfl⟩ := h
  obtain ⟨ds, x, r', e, hd, hx, hc, hm, hz⟩ := zc8 _ _ _ _ _ _ hg
  simp at hm hc
  have hv : z0e m = ds ++ [x] := by
   rw [hm]
   refine (z3I x hx ds hd).2 ?_
   rcases hz with hz | ⟨hz, _⟩
   ·exact .inl hz
   ·exact .inr hz
  have hl : (z0e m).length = c := by rw [hv]; simp; omega
  refine ⟨?_, by rw [hl]⟩
  rw [← List.drop_drop, e, hv]
  have : (ds ++ x :: r').drop c = r' := by
   rw [hc]
   have e2 : ds ++ x :: r' = (ds ++ [x]) ++ r' := by simp
   rw [e2]
   have : ds.length + 1 = (ds ++ [x]).length := by simp
   rw [this, List.drop_left]
  rw [this]; simp
theorem z8q : ∀ (n : Nat), ∃ (ds : Bs) (x : UInt8), z0e n = ds ++ [x] ∧ (∀ d ∈ ds, 128 ≤ d.toNat) ∧ x.toNat < 128 ∧ (x.toNat ≠ 0 ∨ ds = []) ∧ val (ds ++ [x]) = n := by
 intro n
 induction n using Nat.strongRecOn with
 | ind n ih =>
   by_cases hn : n ≤ 127
   ·refine ⟨[], UInt8.ofNat n, z18 hn, by simp, ?_, .inr rfl, ?_⟩
    ·simp; omega
    ·simp [val]; omega
   ·obtain ⟨ds, x, e, hd, hx, hz, hv⟩ := ih (n / 128) (by omega)
    have ht : (UInt8.ofNat (128 + n % 128)).toNat = 128 + n % 128 := by simp; omega
    refine ⟨UInt8.ofNat (128 + n % 128) :: ds, x, by rw [z2e hn, e]; rfl, ?_, hx, ?_, ?_⟩
    ·intro d hd'
     rcases List.mem_cons.1 hd' with rfl | hd'
     ·omega
     ·exact hd d hd'
    ·rcases hz with hz | hz
     ·exact .inl hz
     ·subst hz
      left
      intro h0
      simp [val, h0] at hv
      omega
    ·rw [List.cons_append, val, hv, ht]; omega
theorem zc9 : ∀ (ds : Bs) (x : UInt8) (r : Bs) (f k n : Nat), (∀ d ∈ ds, 128 ≤ d.toNat) → x.toNat < 128 → (x.toNat ≠ 0 ∨ (ds = [] ∧ k = 0)) → ds.length < f → n + val (ds ++ [x]) * 128 ^ k ≤ 1000000000 →
 rvGo f k n (ds ++ x :: r) = some (n + val (ds ++ [x]) * 128 ^ k, k + ds.length + 1)
 | [], x, r, f + 1, k, n, _, hx, hz, _, hm => by
   have hv : val ([] ++ [x]) = x.toNat := by simp [val]; omega
   rw [hv, z4F] at hm ⊢
   exact ze1 f k n x r hx (by rcases hz with h | ⟨_, h⟩ <;> omega) hm
 | d :: ds, x, r, f + 1, k, n, hd, hx, hz, hf, hm => by
   have hd1 : 128 ≤ d.toNat := hd d (by simp)
   have hz1 : x.toNat ≠ 0 := by
    rcases hz with h | ⟨h, _⟩
    ·exact h
    ·cases h
   have e : n + d.toNat % 128 * 2 ^ (7 * k) + val (ds ++ [x]) * 128 ^ (k + 1) = n + val (d :: ds ++ [x]) * 128 ^ k := by
    rw [List.cons_append, val, ← z4F, Nat.pow_succ]
    have e1 : val (ds ++ [x]) * (128 ^ k * 128) = 128 * val (ds ++ [x]) * 128 ^ k := by rw [Nat.mul_comm (128 ^ k) 128, ← Nat.mul_assoc, Nat.mul_comm (val _) 128]
    rw [e1, Nat.add_mul, Nat.add_assoc]
   rw [List.cons_append, z5A _ _ _ _ _ (by omega), zc9 ds x r f (k + 1) _ (fun y hy => hd y (by simp [hy])) hx (.inl hz1) (by simpa using hf) (by rw [e]; exact hm), e]
   simp; omega
theorem z3Q {t : Bs} {p n : Nat} {r : Bs} (hn : n ≤ 1000000000) (h : t.drop p = z0e n ++ r) : z0z t p = some (n, p + (z0e n).length) := by
 obtain ⟨ds, x, e, hd, hx, hz, hv⟩ := z8q n
 have hl := z0I (n := n) (by omega)
 rw [e] at hl
 simp at hl
 have hg := zc9 ds x r 5 0 0 hd hx (by rcases hz with h | h <;> simp [h]) (by omega) (by rw [hv]; omega)
 rw [z0z, h, e, List.append_assoc]
 show (rvGo 5 0 0 (ds ++ x :: r)).map _ = _
 rw [hg, hv]
 simp
theorem z8r {t : Bs} {p q : Nat} {l : Bs} (h : z0G t p = some (l, q)) : t.drop p = z0p l ++ t.drop q ∧ q = p + (z0p l).length := by
 unfold z0G at h
 rcases hr : z0z t p with _ | ⟨n, c⟩
 ·rw [hr] at h; cases h
 ·have hb := z0R hr
  obtain ⟨e1, e2⟩ := z69 hr
  rw [hr] at h
  simp only at h
  split at h
  ·rename_i hc
   injection h with h; injection h with h1 h2; subst h1; subst h2
   have hl : ((t.drop c).take n).length = n := by simp; omega
   refine ⟨?_, by rw [z0p, List.length_append, hl]; omega⟩
   rw [z0p, hl, e1, List.append_assoc, ← List.drop_drop, List.take_append_drop]
  ·cases h
theorem z8s {t : Bs} {p : Nat} {l r : Bs} (hl : l.length ≤ 20000) (h : t.drop p = z0p l ++ r) : z0G t p = some (l, p + (z0p l).length) := by
 have hr : z0z t p = some (l.length, p + (z0e l.length).length) := z3Q (r := l ++ r) (by omega) (by rw [h, z0p, List.append_assoc])
 have hd : t.drop (p + (z0e l.length).length) = l ++ r := by rw [← List.drop_drop, h, z0p, List.append_assoc, List.drop_left]
 have hlen := congrArg List.length hd
 simp at hlen
 rw [z0G, hr]
 simp only
 rw [if_pos ⟨hl, by omega⟩, hd, List.take_left, z0p, List.length_append]
 simp; omega
theorem z6a {t : Bs} {p q : Nat} {l : Bs} {b : Bool} (h : z1f t p b = (l, q, false)) : b = false ∧ l.length ≤ 20000 ∧ t.drop p = z0p l ++ t.drop q ∧ q = p + (z0p l).length := by
 unfold z1f at h
 rcases hr : z0G t p with _ | ⟨m, c⟩
 ·rw [hr] at h; simp at h
 ·rw [hr] at h
  simp at h
  obtain ⟨rfl, rfl, rfl⟩ := h
  exact ⟨rfl, (z2W hr).2.2, z8r hr⟩
theorem zeL {t : Bs} {p n : Nat} {r : Bs} (hn : n ≤ 1000000000) (h : t.drop p = z0e n ++ r) (b : Bool) : z36 t p b = (n, p + (z0e n).length, b) := by
 rw [z36, z3Q hn h]
theorem z6b {t : Bs} {p : Nat} {l r : Bs} (hl : l.length ≤ 20000) (h : t.drop p = z0p l ++ r) (b : Bool) : z1f t p b = (l, p + (z0p l).length, b) := by
 rw [z1f, z8s hl h]
end Go.Proofs.YtkjjacndfieeoaaGreatDoor.Pl
namespace Go.Proofs.YtkjjacndfieeoaaGreatDoor.Pl
set_option linter.unusedVariables false
set_option linter.unusedSimpArgs false
set_option linter.unusedSectionVars false
def inB (n lo hi : Int) : Bool := decide (lo ≤ n) && decide (n ≤ hi)
def z04 (k f t e y : Int) (r : Bs) : Bool :=
 inB e 1 4 && inB y 1 1000 && (if k = 1 ∨ k = 3 ∨ k = 4 then f == 0 && inB t 1 4 && r.isEmpty else if k = 2 then t == 0 && inB f 1 4 && r.length == 16 else if k = 5 then t == 0 && inB f 1 4 && r.isEmpty else false)
theorem z0u {n lo hi : Int} : inB n lo hi = true ↔ lo ≤ n ∧ n ≤ hi := by simp [inB]
theorem z8t {t : Bs} {p : Nat} {b : Bool} (hp : p ≤ t.length) : (z5a t p b).2.1 ≤ t.length ∧ (z5a t p b).1 ≤ 255 := by
 unfold z5a z0w
 split
 ·rename_i h
  split at h
  ·injection h with h1 h2; injection h2 with h2 h3; subst h2; simp [hp]
  ·rename_i hc
   injection h with h1 h2; injection h2 with h2 h3; subst h2
   simp; omega
 ·rename_i x l q b' h
  split at h
  ·injection h with h1 h2; cases h1
  ·rename_i hc
   injection h with h1 h2; injection h2 with h2 h3; subst h2
   have := x.toNat_lt
   simp; omega
theorem z6c {t : Bs} {p q n : Nat} {b : Bool} (h : z5a t p b = (n, q, false)) : b = false ∧ q = p + 1 ∧ ∃ x : UInt8, x.toNat = n ∧ t.drop p = x :: t.drop q := by
 unfold z5a z0w at h
 split at h
 ·rename_i h2
  split at h2
  ·injection h2 with h3 h4; injection h4 with h4 h5; subst h5; simp at h
  ·rename_i hc
   injection h2 with h3 h4
   exfalso
   have hl := congrArg List.length h3
   simp at hl hc
   omega
 ·rename_i x l q' b' h2
  split at h2
  ·injection h2 with h3 h4; cases h3
  ·rename_i hc
   injection h2 with h3 h4; injection h4 with h4 h5
   simp at h
   obtain ⟨rfl, rfl, rfl⟩ := h
   subst h4
   refine ⟨h5, rfl, x, rfl, ?_⟩
   rcases hd : t.drop p with _ | ⟨y, r⟩
   ·rw [hd] at h3; simp at h3
   ·rw [hd] at h3
    simp at h3
    rw [h3.1, ← List.drop_drop, hd]; rfl
abbrev Lt := Nat × Nat × Nat × Nat × Nat × Bs
end Go.Proofs.YtkjjacndfieeoaaGreatDoor.Pl
namespace Go.Proofs.YtkjjacndfieeoaaGreatDoor.Pl
set_option linter.unusedVariables false
set_option linter.unusedSimpArgs false
set_option linter.unusedSectionVars false
abbrev Lf := Bs × Bs
def ltB (a b : Bs) : Bool := Op.bytesLess a b
def lfAt (l : List Lf) (i : Nat) : Lf := l.getD i ([], [])
def z7t (l : List Lf) (i : Nat) : Bool := z4V (lfAt l i).1 && z5C (lfAt l i).2 && (i == 0 || ltB (lfAt l (i - 1)).1 (lfAt l i).1)
def z0C (l : List Lf) : Bool := decide (l.length ≤ 24) && (List.range l.length).all (z7t l)
theorem z8u {l : List Lf} (hl : l.length ≤ 24) (h : ∀ k, k < l.length → z7t l k = true) : z0C l = true := by
 have h1 : decide (l.length ≤ 24) = true := by simpa using hl
 have h2 : (List.range l.length).all (z7t l) = true := List.all_eq_true.2 fun k hk => h k (List.mem_range.1 hk)
 rw [z0C, h1, h2]; rfl
theorem z52 {l : List Lf} : z0C l = true ↔ l.length ≤ 24 ∧ ∀ k, k < l.length → z7t l k = true := by
 constructor
 ·intro h
  rw [z0C, Bool.and_eq_true, decide_eq_true_iff, List.all_eq_true] at h
  exact ⟨h.1, fun k hk => h.2 k (List.mem_range.2 hk)⟩
 ·rintro ⟨h1, h2⟩; exact z8u h1 h2
def decG (k : Nat) (out : Bs) : Bs := if k = 0 then out else decG (k / 10) (UInt8.ofNat (48 + k % 10) :: out)
termination_by k
decreasing_by omega
theorem zeM (out : Bs) : decG 0 out = out := by rw [decG, if_pos rfl]
theorem zeN {k : Nat} (h : k ≠ 0) (out : Bs) : decG k out = decG (k / 10) (UInt8.ofNat (48 + k % 10) :: out) := by rw [decG, if_neg h]
abbrev Sh := Nat → Bool → Bs × Nat × Bool
def z55 (sh : Sh) : Nat → Nat → Bool → List Lf × Nat × Bool
 | 0, p, b => ([], p, b)
 | _ + 1, p, true => ([], p, true)
 | n + 1, p, false => (((sh p false).1, (sh (sh p false).2.1 (sh p false).2.2).1) :: (z55 sh n (sh (sh p false).2.1 (sh p false).2.2).2.1 (sh (sh p false).2.1 (sh p false).2.2).2.2).1,
     (z55 sh n (sh (sh p false).2.1 (sh p false).2.2).2.1 (sh (sh p false).2.1 (sh p false).2.2).2.2).2)
def LvAt (sh : Sh) (R : List Lf × Nat × Bool) (n : Nat) (l : List Lf) (q : Nat) (b : Bool) : Prop := R = (l ++ (z55 sh n q b).1, (z55 sh n q b).2)
theorem LvAt.start (sh : Sh) (n q : Nat) (b : Bool) : LvAt sh (z55 sh n q b) n [] q b := rfl
theorem LvAt.step {sh : Sh} {R : List Lf × Nat × Bool} {n q q1 q2 : Nat} {l : List Lf} {a v : Bs} {b1 b2 : Bool} (h : LvAt sh R (n + 1) l q false) (h1 : sh q false = (a, q1, b1)) (h2 : sh q1 b1 = (v, q2, b2)) : LvAt sh R n (l ++ [(a, v)]) q2 b2 := by
 unfold LvAt at h ⊢
 rw [h, z55, h1]
 simp only [h2]
 simp
theorem LvAt.done {sh : Sh} {R : List Lf × Nat × Bool} {q : Nat} {l : List Lf} {b : Bool} (h : LvAt sh R 0 l q b) : R = (l, q, b) := by
 unfold LvAt at h; rw [h, z55]; simp
theorem LvAt.bad {sh : Sh} {R : List Lf × Nat × Bool} {n q : Nat} {l : List Lf} (h : LvAt sh R n l q true) : R = (l, q, true) := by
 unfold LvAt at h; rw [h]
 cases n <;> simp [z55]
end Go.Proofs.YtkjjacndfieeoaaGreatDoor.Pl
namespace Go.Proofs.YtkjjacndfieeoaaGreatDoor.Pl
set_option linter.unusedVariables false
set_option linter.unusedSimpArgs false
set_option linter.unusedSectionVars false
end Go.Proofs.YtkjjacndfieeoaaGreatDoor.Pl
namespace Go.Proofs.YtkjjacndfieeoaaGreatDoor.Pl
set_option linter.unusedVariables false
set_option linter.unusedSimpArgs false
set_option linter.unusedSectionVars false
def z8v (l : List Lf) (n : Bs) : Option Bs := (l.find? fun x => x.1 == n).map (·.2)
def z3R (l : List Lf) (n : Bs) : List Lf := l.filter fun x => x.1 != n
theorem zeO {l : List Lf} {k : Nat} (h : k < l.length) : lfAt l k = l[k] := by simp [lfAt, List.getD, List.getElem?_eq_getElem h]
def lowL (l : List Lf) (n : Bs) : List Lf := l.filter fun x => ltB x.1 n
def highL (l : List Lf) (n : Bs) : List Lf := l.filter fun x => !(ltB x.1 n || decide (x.1 = n))
def putL (l : List Lf) (n v : Bs) : List Lf := lowL (z3R l n) n ++ [(n, v)] ++ highL (z3R l n) n
def insS (n v : Bs) (s : List Lf × Bool) (x : Lf) : List Lf × Bool :=
 ((bif !s.2 && !ltB x.1 n then s.1 ++ [(n, v)] else s.1) ++ (if x.1 = n then [] else [x]), s.2 || !ltB x.1 n)
def insF (l : List Lf) (n v : Bs) : List Lf × Bool := l.foldl (insS n v) ([], false)
def insL (l : List Lf) (n v : Bs) : List Lf := bif (insF l n v).2 then (insF l n v).1 else (insF l n v).1 ++ [(n, v)]
def insR (l : List Lf) (n v : Bs) : List Lf × Bool := bif z0C l && z0C (insL l n v) then (insL l n v, true) else (l, false)
def zit (l : List Lf) (n : Bs) : List Lf × Bool := bif (z8v l n).isSome && z0C l then (z3R l n, true) else (l, false)
end Go.Proofs.YtkjjacndfieeoaaGreatDoor.Pl
namespace Go.Proofs.YtkjjacndfieeoaaGreatDoor.Pl
set_option linter.unusedVariables false
set_option linter.unusedSimpArgs false
set_option linter.unusedSectionVars false
theorem zhL (a : Bs) : ltB a [] = false := by cases a <;> rfl
theorem zeP (a b : UInt8) (x y : Bs) : ltB (a :: x) (b :: y) = (decide (a < b) || (a == b && ltB x y)) := rfl
theorem lt_irrefl : ∀ a : Bs, ltB a a = false
 | [] => rfl
 | a :: x => by rw [zeP, lt_irrefl x]; simp
theorem lt_trans : ∀ {a b c : Bs}, ltB a b = true → ltB b c = true → ltB a c = true
 | _, [], _, h, _ => by rw [zhL] at h; cases h
 | _, _, [], _, h => by rw [zhL] at h; cases h
 | [], _ :: _, _ :: _, _, _ => rfl
 | a :: x, b :: y, c :: z, h, k => by
   rw [zeP] at h k ⊢
   simp only [Bool.or_eq_true, decide_eq_true_eq, Bool.and_eq_true, beq_iff_eq] at h k ⊢
   rcases h with h | ⟨rfl, h⟩
   ·rcases k with k | ⟨rfl, k⟩
    ·exact .inl (UInt8.lt_trans h k)
    ·exact .inl h
   ·rcases k with k | ⟨rfl, k⟩
    ·exact .inl k
    ·exact .inr ⟨rfl, lt_trans h k⟩
def Sorted (l : List Lf) : Prop := l.Pairwise fun a b => ltB a.1 b.1 = true
theorem zeQ {l : List Lf} (h : z0C l = true) : l.length ≤ 24 ∧ (∀ x ∈ l, z4V x.1 = true ∧ z5C x.2 = true) ∧ Sorted l := by
 obtain ⟨h1, h2⟩ := z52.1 h
 have st : ∀ k (hk : k < l.length), z4V l[k].1 = true ∧ z5C l[k].2 = true ∧ (k = 0 ∨ ltB (lfAt l (k - 1)).1 l[k].1 = true) := fun k hk => by
  have := h2 k hk
  rw [z7t, zeO hk] at this
  simpa [and_assoc] using this
 refine ⟨h1, fun x hx => ?_, ?_⟩
 ·obtain ⟨k, hk, rfl⟩ := List.getElem_of_mem hx
  exact ⟨(st k hk).1, (st k hk).2.1⟩
 ·rw [Sorted, List.pairwise_iff_getElem]
  intro i j hi hj hij
  have key : ∀ d, (h : i + d + 1 < l.length) → ltB l[i].1 l[i + d + 1].1 = true := by
   intro d
   induction d with
   | zero =>
     intro h
     have := ((st (i + 1) h).2.2).resolve_left (by omega)
     rwa [Nat.add_sub_cancel, zeO hi] at this
   | succ d ih =>
     intro h
     have a := ih (by omega)
     have b := ((st (i + (d + 1) + 1) h).2.2).resolve_left (by omega)
     rw [Nat.add_sub_cancel, zeO (show i + (d + 1) < l.length by omega)] at b
     exact lt_trans a b
  have := key (j - i - 1) (by omega)
  simpa [show i + (j - i - 1) + 1 = j by omega] using this
theorem zeR {l : List Lf} (h1 : l.length ≤ 24) (h2 : ∀ x ∈ l, z4V x.1 = true ∧ z5C x.2 = true) (h3 : Sorted l) : z0C l = true := by
 refine z52.2 ⟨h1, fun k hk => ?_⟩
 rw [z7t, zeO hk, (h2 _ (List.getElem_mem hk)).1, (h2 _ (List.getElem_mem hk)).2]
 cases k with
 | zero => rfl
 | succ k =>
   rw [Nat.add_sub_cancel, zeO (show k < l.length by omega)]
   have := (List.pairwise_iff_getElem.1 h3) k (k + 1) (by omega) hk (by omega)
   rw [this]; rfl
theorem Sorted.filter {l : List Lf} (h : Sorted l) (f : Lf → Bool) : Sorted (l.filter f) := List.Pairwise.filter _ h
theorem zaK {l : List Lf} {n : Bs} {x : Lf} : x ∈ z3R l n ↔ x ∈ l ∧ x.1 ≠ n := by simp [z3R]
theorem zdc {l : List Lf} {n : Bs} (h : z0C l = true) : z0C (z3R l n) = true := by
 obtain ⟨h1, h2, h3⟩ := zeQ h
 exact zeR (Nat.le_trans (List.length_filter_le _ _) h1) (fun x hx => h2 x (zaK.1 hx).1) (h3.filter _)
end Go.Proofs.YtkjjacndfieeoaaGreatDoor.Pl
namespace Go.Proofs.YtkjjacndfieeoaaGreatDoor.Pl
set_option linter.unusedVariables false
set_option linter.unusedSimpArgs false
set_option linter.unusedSectionVars false
def z1M (t : Bs) (w : Nat) : Nat → Nat → Bool → List Bs × Nat × Bool
 | 0, p, b => ([], p, b)
 | n + 1, p, b => ((z0w t p b w).1 :: (z1M t w n (z0w t p b w).2.1 (z0w t p b w).2.2).1, (z1M t w n (z0w t p b w).2.1 (z0w t p b w).2.2).2)
theorem z6d (t : Bs) (p w : Nat) : z0w t p true w = ([], p, true) := by simp [z0w]
theorem z9t (t : Bs) (w : Nat) : ∀ (n p : Nat), (z1M t w n p true).2.2 = true
 | 0, p => rfl
 | n + 1, p => by simp only [z1M, z6d]; exact z9t t w n p
theorem z4i {t : Bs} {w : Nat} : ∀ {n p q : Nat} {b : Bool} {s : List Bs}, z1M t w n p b = (s, q, false) → p ≤ t.length → b = false ∧ s.length = n ∧ (∀ x ∈ s, x.length = w) ∧ q ≤ t.length ∧ t.drop p = s.flatten ++ t.drop q
 | 0, p, q, b, s, h, hp => by
   simp only [z1M, Prod.mk.injEq] at h
   obtain ⟨rfl, rfl, rfl⟩ := h
   exact ⟨rfl, rfl, fun x hx => absurd hx (List.not_mem_nil), hp, by simp⟩
 | n + 1, p, q, b, s, h, hp => by
   by_cases hc : b = true ∨ t.length - p < w
   ·have e : z0w t p b w = ([], p, true) := by rw [z0w, if_pos hc]
    simp only [z1M, e] at h
    have := z9t t w n p
    have h2 := congrArg (fun x => x.2.2) h
    simp only at h2
    rw [this] at h2; cases h2
   ·have e : z0w t p b w = ((t.drop p).take w, p + w, b) := by rw [z0w, if_neg hc]
    have hb : b = false := by cases b <;> simp at hc ⊢
    have hw : ¬ t.length - p < w := fun h => hc (.inr h)
    simp only [z1M, e] at h
    rcases hR : z1M t w n (p + w) b with ⟨s', q', b'⟩
    rw [hR] at h
    simp only [Prod.mk.injEq] at h
    obtain ⟨rfl, rfl, rfl⟩ := h
    obtain ⟨_, i2, i3, i4, i5⟩ := z4i hR (by omega)
    refine ⟨hb, by simp [i2], fun x hx => ?_, i4, ?_⟩
    ·rcases List.mem_cons.1 hx with rfl | hx
     ·simp; omega
     ·exact i3 x hx
    ·rw [List.flatten_cons, List.append_assoc, ← i5, ← List.drop_drop, List.take_append_drop]
theorem z4j {t : Bs} {w : Nat} : ∀ {s : List Bs} {p : Nat} {r : Bs}, (∀ x ∈ s, x.length = w) → t.drop p = s.flatten ++ r → z1M t w s.length p false = (s, p + s.flatten.length, false)
 | [], p, r, _, _ => by simp [z1M]
 | x :: s, p, r, hs, h => by
   have hx := hs x (by simp)
   have hl := congrArg List.length h
   simp at hl
   have e : z0w t p false w = (x, p + w, false) := by
    rw [z0w, if_neg (by simp; omega), h, List.flatten_cons, List.append_assoc, ← hx, List.take_left]
   have hd : t.drop (p + w) = s.flatten ++ r := by rw [← List.drop_drop, h, List.flatten_cons, List.append_assoc, ← hx, List.drop_left]
   have ih := z4j (fun y hy => hs y (by simp [hy])) hd
   rw [List.length_cons, z1M, e]
   simp only [ih]
   simp [hx]; omega
def wideB (s : List Bs) (w : Int) : Bool := s.all (fun x => decide ((x.length : Int) = w)) && inB w 1 32
end Go.Proofs.YtkjjacndfieeoaaGreatDoor.Pl
namespace Go.Proofs.YtkjjacndfieeoaaGreatDoor.Pl
set_option linter.unusedVariables false
set_option linter.unusedSimpArgs false
set_option linter.unusedSectionVars false
def shlN (x : UInt32) (n : Nat) : UInt32 := UInt32.ofNat (x.toNat * 2 ^ n)
def shrN (x : UInt32) (n : Nat) : UInt32 := UInt32.ofNat (x.toNat / 2 ^ n)
def o8 (b : UInt8) : UInt32 := UInt32.ofNat b.toNat
def z22 (x : UInt32) (n : Nat) : UInt32 := shrN x n ||| shlN x (32 - n)
def zgQ (b : Bs) (i : Nat) : UInt32 := shlN (o8 (b.getD (4 * i) 0)) 24 ||| shlN (o8 (b.getD (4 * i + 1) 0)) 16 ||| shlN (o8 (b.getD (4 * i + 2) 0)) 8 ||| o8 (b.getD (4 * i + 3) 0)
def upd (f : Nat → UInt32) (i : Nat) (x : UInt32) : Nat → UInt32 := fun j => bif Nat.beq j i then x else f j
def z2Y (b : Bs) (i : Nat) : Nat → UInt32 := (List.range i).foldl (fun ws k => upd ws k (zgQ b k)) (fun _ => 0)
def z4k (ws : Nat → UInt32) (i : Nat) : Nat → UInt32 :=
 upd ws i (ws (i - 16) + (z22 (ws (i - 15)) 7 ^^^ z22 (ws (i - 15)) 18 ^^^ shrN (ws (i - 15)) 3) + ws (i - 7) + (z22 (ws (i - 2)) 17 ^^^ z22 (ws (i - 2)) 19 ^^^ shrN (ws (i - 2)) 10))
def z2F (ws : Nat → UInt32) (i : Nat) : Nat → UInt32 := (List.range (i - 16)).foldl (fun ws k => z4k ws (k + 16)) ws
structure W8 where
 a : UInt32
 b : UInt32
 c : UInt32
 d : UInt32
 e : UInt32
 f : UInt32
 g : UInt32
 h : UInt32
def W8.list (s : W8) : List UInt32 := [s.a, s.b, s.c, s.d, s.e, s.f, s.g, s.h]
def rnd (s : W8) (k w : UInt32) : W8 :=
 let one := s.h + (z22 s.e 6 ^^^ z22 s.e 11 ^^^ z22 s.e 25) + (s.e &&& s.f ^^^ (s.e ^^^ 4294967295) &&& s.g) + k + w
 let two := (z22 s.a 2 ^^^ z22 s.a 13 ^^^ z22 s.a 22) + (s.a &&& s.b ^^^ s.a &&& s.c ^^^ s.b &&& s.c)
 ⟨one + two, s.a, s.b, s.c, s.d + one, s.e, s.f, s.g⟩
def rnds (s : W8) (ks ws : Nat → UInt32) (i : Nat) : W8 := (List.range i).foldl (fun s j => rnd s (ks j) (ws j)) s
def addW (h s : Nat → UInt32) (i : Nat) : Nat → UInt32 := (List.range i).foldl (fun l j => upd l j (l j + s j)) h
def W8.fn (s : W8) : Nat → UInt32 := fun j => s.list.getD j 0
def add8 (h s : W8) : W8 := ⟨h.a + s.a, h.b + s.b, h.c + s.c, h.d + s.d, h.e + s.e, h.f + s.f, h.g + s.g, h.h + s.h⟩
def z7v (h : W8) (b : Bs) (ks : Nat → UInt32) : W8 := add8 h (rnds h ks (z2F (z2Y b 16) 64) 64)
theorem z6f (b : Bs) (i : Nat) : z2Y b (i + 1) = upd (z2Y b i) i (zgQ b i) := by simp [z2Y, List.range_succ]
theorem z6g {ws : Nat → UInt32} {i : Nat} (h : 16 ≤ i) : z2F ws (i + 1) = z4k (z2F ws i) i := by
 rw [z2F, z2F, show i + 1 - 16 = (i - 16) + 1 by omega, List.range_succ, List.foldl_append]
 simp [show i - 16 + 16 = i by omega]
theorem z9w (s : W8) (ks ws : Nat → UInt32) (i : Nat) : rnds s ks ws (i + 1) = rnd (rnds s ks ws i) (ks i) (ws i) := by simp [rnds, List.range_succ]
theorem z6h (h s : Nat → UInt32) (i : Nat) : addW h s (i + 1) = upd (addW h s i) i (addW h s i i + s i) := by simp [addW, List.range_succ]
theorem z8x (h s : Nat → UInt32) : ∀ (i j : Nat), addW h s i j = if j < i then h j + s j else h j
 | 0, j => rfl
 | i + 1, j => by
   rw [z6h, upd, z8x h s i, z8x h s i]
   by_cases hj : j = i
   ·subst hj; simp
   ·have : Nat.beq j i = false := by
     cases hb : Nat.beq j i with
     | false => rfl
     | true => exact absurd (Nat.eq_of_beq_eq_true hb) hj
    rw [this, cond_false]
    by_cases h1 : j < i
    ·rw [if_pos h1, if_pos (by omega)]
    ·rw [if_neg h1, if_neg (by omega)]
def z0L : Nat → Bs → Bs
 | 0, t => t
 | n + 1, t => if t.length % 64 = 56 then t else z0L n (t ++ [0])
def lenB (n : Nat) (i : Nat) : Bs := (List.range i).map fun j => UInt8.ofNat (n / 2 ^ (8 * (7 - j)))
def padB (t : Bs) : Bs := z0L 64 (t ++ [128]) ++ lenB (8 * t.length) 8
def z23 (h : W8) (p : Bs) (ks : Nat → UInt32) (i : Nat) : W8 := (List.range i).foldl (fun h j => z7v h ((p.drop (64 * j)).take 64) ks) h
theorem z56 (h : W8) (p : Bs) (ks : Nat → UInt32) (i : Nat) : z23 h p ks (i + 1) = z7v (z23 h p ks i) ((p.drop (64 * i)).take 64) ks := by simp [z23, List.range_succ]
def out4 (out : Bs) (x : UInt32) (i : Nat) : Bs :=
 (((out.set (4 * i) (UInt8.ofNat (shrN x 24).toNat)).set (4 * i + 1) (UInt8.ofNat (shrN x 16).toNat)).set (4 * i + 2) (UInt8.ofNat (shrN x 8).toNat)).set (4 * i + 3) (UInt8.ofNat x.toNat)
def outB (h : Nat → UInt32) (i : Nat) : Bs := (List.range i).foldl (fun out j => out4 out (h j) j) (List.replicate 32 0)
theorem z9x (h : Nat → UInt32) (i : Nat) : outB h (i + 1) = out4 (outB h i) (h i) i := by simp [outB, List.range_succ]
theorem z8y (h : Nat → UInt32) : ∀ i, (outB h i).length = 32
 | 0 => rfl
 | i + 1 => by rw [z9x]; simp only [out4, List.length_set]; exact z8y h i
def first8 : W8 := ⟨1779033703, 3144134277, 1013904242, 2773480762, 1359893119, 2600822924, 528734635, 1541459225⟩
def keys64 : List UInt32 := [1116352408, 1899447441, 3049323471, 3921009573, 961987163, 1508970993, 2453635748, 2870763221, 3624381080, 310598401, 607225278, 1426881987, 1925078388, 2162078206, 2614888103, 3248222580, 3835390401, 4022224774, 264347078, 604807628, 770255983, 1249150122, 1555081692, 1996064986, 2554220882, 2821834349, 2952996808, 3210313671, 3336571891, 3584528711, 113926993, 338241895, 666307205, 773529912, 1294757372, 1396182291, 1695183700, 1986661051, 2177026350, 2456956037, 2730485921, 2820302411, 3259730800, 3345764771, 3516065817, 3600352804, 4094571909, 275423344, 430227734, 506948616, 659060556, 883997877, 958139571, 1322822218, 1537002063, 1747873779, 1955562222, 2024104815, 2227730452, 2361852424, 2428436474, 2756734187, 3204031479, 3329325298]
def kF : Nat → UInt32 := fun j => keys64.getD j 0
def z1c (t : Bs) : Bs := outB (z23 first8 (padB t) kF ((padB t).length / 64)).fn 8
theorem z6i : ∀ (n : Nat) (t : Bs), (56 + 64 - t.length % 64) % 64 ≤ n → (z0L n t).length % 64 = 56 ∧ (z0L n t).length ≤ t.length + n
 | 0, t, h => by simp only [z0L]; omega
 | n + 1, t, h => by
   simp only [z0L]
   split
   ·omega
   ·have := z6i n (t ++ [0]) (by simp; omega)
    simp at this ⊢
    omega
theorem zce (t : Bs) : (padB t).length % 64 = 0 ∧ (padB t).length ≤ t.length + 73 ∧ 64 ≤ (padB t).length := by
 have := z6i 64 (t ++ [128]) (by omega)
 simp only [padB, lenB, List.length_append, List.length_map, List.length_range, List.length_singleton] at this ⊢
 omega
theorem z1s (t : Bs) : (z1c t).length = 32 := z8y _ _
end Go.Proofs.YtkjjacndfieeoaaGreatDoor.Pl
namespace Go.Proofs.YtkjjacndfieeoaaGreatDoor.Pl
set_option linter.unusedVariables false
set_option linter.unusedSimpArgs false
set_option linter.unusedSectionVars false
theorem zcf : ∀ (n : Nat) (t : Bs), (56 + 64 - t.length % 64) % 64 ≤ n → z0L n t = t ++ List.replicate ((56 + 64 - t.length % 64) % 64) 0
 | 0, t, h => by
   have h0 : (56 + 64 - t.length % 64) % 64 = 0 := by omega
   simp [z0L, h0]
 | n + 1, t, h => by
   simp only [z0L]
   split
   ·have h0 : (56 + 64 - t.length % 64) % 64 = 0 := by omega
    simp [h0]
   ·have e : (56 + 64 - t.length % 64) % 64 = (56 + 64 - (t ++ [0]).length % 64) % 64 + 1 := by simp; omega
    rw [zcf n (t ++ [0]) (by omega), e, List.append_assoc, List.replicate_succ]
    rfl
def padI (t : Bs) : Bs := t ++ [128] ++ List.replicate ((119 - t.length % 64) % 64) 0 ++ lenB (8 * t.length) 8
theorem zix (t : Bs) : padI t = padB t := by
 have e : (56 + 64 - (t ++ [128]).length % 64) % 64 = (119 - t.length % 64) % 64 := by simp; omega
 rw [padI, padB, zcf 64 (t ++ [128]) (by omega), e]
def four (x : UInt32) : Bs := [UInt8.ofNat (shrN x 24).toNat, UInt8.ofNat (shrN x 16).toNat, UInt8.ofNat (shrN x 8).toNat, UInt8.ofNat x.toNat]
def outI (h : Nat → UInt32) (i : Nat) : Bs := (List.range i).flatMap fun j => four (h j)
theorem z9y (h : Nat → UInt32) (i : Nat) : outI h (i + 1) = outI h i ++ four (h i) := by simp [outI, List.range_succ]
theorem zcg (h : Nat → UInt32) : ∀ i, (outI h i).length = 4 * i
 | 0 => rfl
 | i + 1 => by rw [z9y, List.length_append, zcg h i]; simp [four]; omega
theorem ziy (h : Nat → UInt32) : outI h 8 = outB h 8 := by kernel_rfl
theorem zf4 (x : UInt32) (n : Nat) : shlN x (32 - n) ||| shrN x n = z22 x n := UInt32.or_comm _ _
theorem xor_comm (a b : UInt32) : a ^^^ b = b ^^^ a := UInt32.xor_comm _ _
def ixB (s : Bs) : Nat := ((z1c s).getD 0 0).toNat
end Go.Proofs.YtkjjacndfieeoaaGreatDoor.Pl
namespace Go.Proofs.YtkjjacndfieeoaaGreatDoor.Pl
set_option linter.unusedVariables false
set_option linter.unusedSimpArgs false
set_option linter.unusedSectionVars false
def tagB (k : Nat) (ps : List Bs) : Bs := UInt8.ofNat k :: ps.flatMap z0p
def cutB (t : Bs) (w : Nat) : Bs := (z1c t).take w
def z1a (k : Nat) (ps : List Bs) (w : Nat) : Bs := cutB (tagB k ps) w
theorem z5o {t : Bs} {w : Nat} (h : w ≤ 32) : (cutB t w).length = w := by rw [cutB, List.length_take, z1s]; omega
theorem z1q {k : Nat} {ps : List Bs} {w : Nat} (h : w ≤ 32) : (z1a k ps w).length = w := z5o h
def partsB (l : List Lf) : List Bs := l.flatMap fun x => [x.1, x.2]
def ziz (l : List Lf) : Bs := if l = [] then tagB 1 [] else tagB 2 (partsB l)
def emB (w : Nat) : Nat → Bs
 | 0 => z1a 1 [] w
 | d + 1 => z1a 3 [emB w d, emB w d] w
def atP (l : List Lf) (d p : Nat) : List Lf := l.filter fun x => decide (ixB x.1 / 2 ^ d = p)
def ziA (l : List Lf) (w : Nat) : Nat → Nat → Bs
 | 0, p => cutB (ziz (atP l 0 p)) w
 | d + 1, p => if atP l (d + 1) p = [] then emB w (d + 1) else z1a 3 [ziA l w d (2 * p), ziA l w d (2 * p + 1)] w
def sib (a : Nat) : Nat := if a % 2 = 0 then a + 1 else a - 1
def bitB (ix j : Nat) : Nat := ix / 2 ^ j % 2
def zaN (ix j : Nat) (h s : Bs) : List Bs := if bitB ix j = 1 then [s, h] else [h, s]
def z2G (ix w : Nat) : Nat → Bs → List Bs → List Bs × Bs
 | _, h, [] => ([], h)
 | j, h, s :: ss =>
   let t := tagB 3 (zaN ix j h s)
   (t :: (z2G ix w (j + 1) (cutB t w) ss).1, (z2G ix w (j + 1) (cutB t w) ss).2)
end Go.Proofs.YtkjjacndfieeoaaGreatDoor.Pl
namespace Go.Proofs.YtkjjacndfieeoaaGreatDoor.Pl
set_option linter.unusedVariables false
set_option linter.unusedSimpArgs false
set_option linter.unusedSectionVars false
abbrev Ch := Int × Bs × Bs
def zcc (l : List Lf) (u : Ch) : List Lf := bif u.2.2.isEmpty then (zit l u.2.1).1 else (insR l u.2.1 u.2.2).1
theorem zgO {l : List Lf} {n : Bs} (h : z0C l = true) : z0C (zit l n).1 = true := by
 unfold zit
 cases (z8v l n).isSome && z0C l
 ·exact h
 ·exact zdc h
theorem ziu {l : List Lf} {n v : Bs} (h : z0C l = true) : z0C (insR l n v).1 = true := by
 unfold insR
 rw [h, Bool.true_and]
 cases h2 : z0C (insL l n v)
 ·exact h
 ·exact h2
theorem zf1 {l : List Lf} {u : Ch} (h : z0C l = true) : z0C (zcc l u) = true := by
 unfold zcc
 cases u.2.2.isEmpty
 ·exact ziu h
 ·exact zgO h
theorem ziv {us : List Ch} : ∀ {l : List Lf}, z0C l = true → z0C (us.foldl zcc l) = true := by
 induction us with
 | nil => exact fun h => h
 | cons u us ih => exact fun h => ih (zf1 h)
def zgP (l : List Lf) (n : Bs) : Bs × Bool := ((z8v l n).getD [], (z8v l n).isSome)
end Go.Proofs.YtkjjacndfieeoaaGreatDoor.Pl
