/- Plain: the checksum. Plain: what is read is what was written, and the other way round. Plain: letters. Plain: entries. Entries, no program in sight: both readers agree. Plain: an entry is looked up, put, dropped. Plain: what holds of an entry that is put, and of one that is dropped; entries are read as they were written. Plain: proofs are read as they were written, by the program and by the reference alike. Plain: words of 32 bits, and the digest as the reference reckons it. Plain: the digest as the program reckons it is the reference's. Plain: the tree of hashes, and the way up from a bucket to the root. Plain: changes are applied one by one; the last change of a name counts. -/
import Derived.Test.YtnhcfmmdaihneaaPlain
import Derived.Laws.BitsAllLaws
import Derived.KernelRfl
namespace Go.Proofs.Ytnhcfmmdaihneaa.Pl
set_option linter.unusedVariables false
set_option linter.unusedSimpArgs false
set_option linter.unusedSectionVars false
def step1 (s : Nat) : Nat := if s % 2 = 1 then (s / 2) ^^^ 3558460437 else s / 2
def stepN : Nat → Nat → Nat
 | 0, s => s
 | n + 1, s => step1 (stepN n s)
def zcN (s : Nat) (l : Bs) : Nat := l.foldl (fun s b => stepN 8 (s ^^^ b.toNat)) s
def zcO (l : Bs) : Nat := zcN 4294967295 l
def zcP (x : Nat) : Bs := [UInt8.ofNat (x / 16777216), UInt8.ofNat (x / 65536), UInt8.ofNat (x / 256), UInt8.ofNat x]
end Go.Proofs.Ytnhcfmmdaihneaa.Pl
namespace Go.Proofs.Ytnhcfmmdaihneaa.Pl
set_option linter.unusedVariables false
set_option linter.unusedSimpArgs false
set_option linter.unusedSectionVars false
theorem z8L : ∀ (f k n : Nat) (r : Bs) (m c : Nat), rvGo f k n r = some (m, c) →
 ∃ (ds : Bs) (x : UInt8) (r' : Bs), r = ds ++ x :: r' ∧ (∀ d ∈ ds, 128 ≤ d.toNat) ∧ x.toNat < 128 ∧ c = k + ds.length + 1 ∧ m = n + val (ds ++ [x]) * 128 ^ k ∧ (x.toNat ≠ 0 ∨ (ds = [] ∧ k = 0))
 | 0, _, _, _, _, _, h => by cases h
 | _ + 1, _, _, [], _, _, h => by cases h
 | f + 1, k, n, x :: r, m, c, h => by
   rw [rvGo] at h
   split at h
   ·rename_i hx
    split at h
    ·cases h
    ·rename_i hb
     injection h with h; injection h with h1 h2
     refine ⟨[], x, r, rfl, by simp, hx, by simp; omega, ?_, ?_⟩
     ·have : val ([] ++ [x]) = x.toNat := by simp [val]; omega
      rw [this, z3z, h1]
     ·by_cases h0 : x.toNat = 0
      ·right; refine ⟨rfl, ?_⟩; omega
      ·exact .inl h0
   ·rename_i hx
    obtain ⟨ds, y, r', e, hd, hy, hc, hm, hz⟩ := z8L f (k + 1) _ r m c h
    refine ⟨x :: ds, y, r', by rw [e]; rfl, ?_, hy, by rw [List.length_cons]; omega, ?_, ?_⟩
    ·intro d hd'
     rcases List.mem_cons.1 hd' with rfl | hd'
     ·omega
     ·exact hd d hd'
    ·rw [hm, List.cons_append, val, ← z3z, Nat.pow_succ]
     have e1 : val (ds ++ [y]) * (128 ^ k * 128) = 128 * val (ds ++ [y]) * 128 ^ k := by rw [Nat.mul_comm (128 ^ k) 128, ← Nat.mul_assoc, Nat.mul_comm (val _) 128]
     rw [e1, Nat.add_mul, Nat.add_assoc]
    ·rcases hz with hz | ⟨_, hz⟩
     ·exact .inl hz
     ·omega
theorem z4B {t : Bs} {p n q : Nat} (h : z0r t p = some (n, q)) : t.drop p = z0d n ++ t.drop q ∧ q = p + (z0d n).length := by
 have hb := z0M h
 unfold z0r at h
 rcases hg : rvGo 5 0 0 (t.drop p) with _ | ⟨m, c⟩
 ·rw [hg] at h; cases h
 ·rw [hg] at h
  simp at h
  obtain ⟨rfl, rfl⟩ := h
  obtain ⟨ds, x, r', e, hd, hx, hc, hm, hz⟩ := z8L _ _ _ _ _ _ hg
  simp at hm hc
  have hv : z0d m = ds ++ [x] := by
   rw [hm]
   refine (z2S x hx ds hd).2 ?_
   rcases hz with hz | ⟨hz, _⟩
   ·exact .inl hz
   ·exact .inr hz
  have hl : (z0d m).length = c := by rw [hv]; simp; omega
  refine ⟨?_, by rw [hl]⟩
  rw [← List.drop_drop, e, hv]
  have : (ds ++ x :: r').drop c = r' := by
   rw [hc]
   have e2 : ds ++ x :: r' = (ds ++ [x]) ++ r' := by simp
   rw [e2]
   have : ds.length + 1 = (ds ++ [x]).length := by simp
   rw [this, List.drop_left]
  rw [this]; simp
theorem z5Z : ∀ (n : Nat), ∃ (ds : Bs) (x : UInt8), z0d n = ds ++ [x] ∧ (∀ d ∈ ds, 128 ≤ d.toNat) ∧ x.toNat < 128 ∧ (x.toNat ≠ 0 ∨ ds = []) ∧ val (ds ++ [x]) = n := by
 intro n
 induction n using Nat.strongRecOn with
 | ind n ih =>
   by_cases hn : n ≤ 127
   ·refine ⟨[], UInt8.ofNat n, z1a hn, by simp, ?_, .inr rfl, ?_⟩
    ·simp; omega
    ·simp [val]; omega
   ·obtain ⟨ds, x, e, hd, hx, hz, hv⟩ := ih (n / 128) (by omega)
    have ht : (UInt8.ofNat (128 + n % 128)).toNat = 128 + n % 128 := by simp; omega
    refine ⟨UInt8.ofNat (128 + n % 128) :: ds, x, by rw [z2g hn, e]; rfl, ?_, hx, ?_, ?_⟩
    ·intro d hd'
     rcases List.mem_cons.1 hd' with rfl | hd'
     ·omega
     ·exact hd d hd'
    ·rcases hz with hz | hz
     ·exact .inl hz
     ·subst hz
      left
      intro h0
      simp [val, h0] at hv
      omega
    ·rw [List.cons_append, val, hv, ht]; omega
theorem z8M : ∀ (ds : Bs) (x : UInt8) (r : Bs) (f k n : Nat), (∀ d ∈ ds, 128 ≤ d.toNat) → x.toNat < 128 → (x.toNat ≠ 0 ∨ (ds = [] ∧ k = 0)) → ds.length < f → n + val (ds ++ [x]) * 128 ^ k ≤ 1000000000 →
 rvGo f k n (ds ++ x :: r) = some (n + val (ds ++ [x]) * 128 ^ k, k + ds.length + 1)
 | [], x, r, f + 1, k, n, _, hx, hz, _, hm => by
   have hv : val ([] ++ [x]) = x.toNat := by simp [val]; omega
   rw [hv, z3z] at hm ⊢
   exact z9F f k n x r hx (by rcases hz with h | ⟨_, h⟩ <;> omega) hm
 | d :: ds, x, r, f + 1, k, n, hd, hx, hz, hf, hm => by
   have hd1 : 128 ≤ d.toNat := hd d (by simp)
   have hz1 : x.toNat ≠ 0 := by
    rcases hz with h | ⟨h, _⟩
    ·exact h
    ·cases h
   have e : n + d.toNat % 128 * 2 ^ (7 * k) + val (ds ++ [x]) * 128 ^ (k + 1) = n + val (d :: ds ++ [x]) * 128 ^ k := by
    rw [List.cons_append, val, ← z3z, Nat.pow_succ]
    have e1 : val (ds ++ [x]) * (128 ^ k * 128) = 128 * val (ds ++ [x]) * 128 ^ k := by rw [Nat.mul_comm (128 ^ k) 128, ← Nat.mul_assoc, Nat.mul_comm (val _) 128]
    rw [e1, Nat.add_mul, Nat.add_assoc]
   rw [List.cons_append, z4b _ _ _ _ _ (by omega), z8M ds x r f (k + 1) _ (fun y hy => hd y (by simp [hy])) hx (.inl hz1) (by simpa using hf) (by rw [e]; exact hm), e]
   simp; omega
theorem z4C {t : Bs} {p n : Nat} {r : Bs} (hn : n ≤ 1000000000) (h : t.drop p = z0d n ++ r) : z0r t p = some (n, p + (z0d n).length) := by
 obtain ⟨ds, x, e, hd, hx, hz, hv⟩ := z5Z n
 have hl := z2h (n := n) (by omega)
 rw [e] at hl
 simp at hl
 have hg := z8M ds x r 5 0 0 hd hx (by rcases hz with h | h <;> simp [h]) (by omega) (by rw [hv]; omega)
 rw [z0r, h, e, List.append_assoc]
 show (rvGo 5 0 0 (ds ++ x :: r)).map _ = _
 rw [hg, hv]
 simp
theorem z60 {t : Bs} {p q : Nat} {l : Bs} (h : z0g t p = some (l, q)) : t.drop p = z09 l ++ t.drop q ∧ q = p + (z09 l).length := by
 unfold z0g at h
 rcases hr : z0r t p with _ | ⟨n, c⟩
 ·rw [hr] at h; cases h
 ·have hb := z0M hr
  obtain ⟨e1, e2⟩ := z4B hr
  rw [hr] at h
  simp only at h
  split at h
  ·rename_i hc
   injection h with h; injection h with h1 h2; subst h1; subst h2
   have hl : ((t.drop c).take n).length = n := by simp; omega
   refine ⟨?_, by rw [z09, List.length_append, hl]; omega⟩
   rw [z09, hl, e1, List.append_assoc, ← List.drop_drop, List.take_append_drop]
  ·cases h
theorem z61 {t : Bs} {p : Nat} {l r : Bs} (hl : l.length ≤ 20000) (h : t.drop p = z09 l ++ r) : z0g t p = some (l, p + (z09 l).length) := by
 have hr : z0r t p = some (l.length, p + (z0d l.length).length) := z4C (r := l ++ r) (by omega) (by rw [h, z09, List.append_assoc])
 have hd : t.drop (p + (z0d l.length).length) = l ++ r := by rw [← List.drop_drop, h, z09, List.append_assoc, List.drop_left]
 have hlen := congrArg List.length hd
 simp at hlen
 rw [z0g, hr]
 simp only
 rw [if_pos ⟨hl, by omega⟩, hd, List.take_left, z09, List.length_append]
 simp; omega
def numS (t : Bs) (p : Nat) (bad : Bool) : Nat × Nat × Bool := if bad = true then (0, p, true) else z1G t p false
def z0X (t : Bs) (p : Nat) (bad : Bool) : Bs × Nat × Bool := if bad = true then ([], p, true) else z0p t p false
theorem z7M (t : Bs) (p : Nat) : (z0p t p true).2.2 = true := by unfold z0p; split <;> rfl
theorem z9l (t : Bs) (p : Nat) : (z0X t p true).2.2 = true := rfl
theorem z6O (t : Bs) (p : Nat) : numS t p false = z1G t p false := rfl
theorem z4D (t : Bs) (p : Nat) : z0X t p false = z0p t p false := rfl
theorem z3m {t : Bs} {p n q : Nat} {b : Bool} (h : z1G t p b = (n, q, false)) : b = false ∧ n ≤ 1000000000 ∧ t.drop p = z0d n ++ t.drop q ∧ q = p + (z0d n).length := by
 unfold z1G at h
 rcases hr : z0r t p with _ | ⟨m, c⟩
 ·rw [hr] at h; simp at h
 ·rw [hr] at h
  simp at h
  obtain ⟨rfl, rfl, rfl⟩ := h
  exact ⟨rfl, (z0M hr).2.2.2, z4B hr⟩
theorem z1z {t : Bs} {p q : Nat} {l : Bs} {b : Bool} (h : z0p t p b = (l, q, false)) : b = false ∧ l.length ≤ 20000 ∧ t.drop p = z09 l ++ t.drop q ∧ q = p + (z09 l).length := by
 unfold z0p at h
 rcases hr : z0g t p with _ | ⟨m, c⟩
 ·rw [hr] at h; simp at h
 ·rw [hr] at h
  simp at h
  obtain ⟨rfl, rfl, rfl⟩ := h
  exact ⟨rfl, (z2s hr).2.2, z60 hr⟩
theorem z1J {t : Bs} {p n : Nat} {r : Bs} (hn : n ≤ 1000000000) (h : t.drop p = z0d n ++ r) (b : Bool) : z1G t p b = (n, p + (z0d n).length, b) := by
 rw [z1G, z4C hn h]
theorem z0T {t : Bs} {p : Nat} {l r : Bs} (hl : l.length ≤ 20000) (h : t.drop p = z09 l ++ r) (b : Bool) : z0p t p b = (l, p + (z09 l).length, b) := by
 rw [z0p, z61 hl h]
theorem z32 {t : Bs} {p : Nat} {bad : Bool} (hp : p ≤ t.length) : (numS t p bad).2.1 ≤ t.length ∧ (numS t p bad).1 ≤ 1000000000 := by
 unfold numS; split
 ·exact ⟨hp, by simp⟩
 ·exact z1X hp
theorem z1K {t : Bs} {p : Nat} {bad : Bool} (hp : p ≤ t.length) : (z0X t p bad).2.1 ≤ t.length ∧ (z0X t p bad).1.length ≤ 20000 := by
 unfold z0X; split
 ·exact ⟨hp, by simp⟩
 ·exact z0Y hp
end Go.Proofs.Ytnhcfmmdaihneaa.Pl
namespace Go.Proofs.Ytnhcfmmdaihneaa.Pl
set_option linter.unusedVariables false
set_option linter.unusedSimpArgs false
set_option linter.unusedSectionVars false
def inB (n lo hi : Int) : Bool := decide (lo ≤ n) && decide (n ≤ hi)
theorem z12 {n lo hi : Int} : inB n lo hi = true ↔ lo ≤ n ∧ n ≤ hi := by simp [inB]
theorem zaq (t : Bs) (p : Nat) : z0S t p true = (0, p, true) := by unfold z0S z0h; simp
theorem z3n {t : Bs} {p : Nat} {b : Bool} (hp : p ≤ t.length) : (z0S t p b).2.1 ≤ t.length ∧ (z0S t p b).1 ≤ 255 := by
 unfold z0S z0h
 split
 ·rename_i h
  split at h
  ·injection h with h1 h2; injection h2 with h2 h3; subst h2; simp [hp]
  ·rename_i hc
   injection h with h1 h2; injection h2 with h2 h3; subst h2
   simp; omega
 ·rename_i x l q b' h
  split at h
  ·injection h with h1 h2; cases h1
  ·rename_i hc
   injection h with h1 h2; injection h2 with h2 h3; subst h2
   have := x.toNat_lt
   simp; omega
theorem z3o {t : Bs} {p q n : Nat} {b : Bool} (h : z0S t p b = (n, q, false)) : b = false ∧ q = p + 1 ∧ ∃ x : UInt8, x.toNat = n ∧ t.drop p = x :: t.drop q := by
 unfold z0S z0h at h
 split at h
 ·rename_i h2
  split at h2
  ·injection h2 with h3 h4; injection h4 with h4 h5; subst h5; simp at h
  ·rename_i hc
   injection h2 with h3 h4
   exfalso
   have hl := congrArg List.length h3
   simp at hl hc
   omega
 ·rename_i x l q' b' h2
  split at h2
  ·injection h2 with h3 h4; cases h3
  ·rename_i hc
   injection h2 with h3 h4; injection h4 with h4 h5
   simp at h
   obtain ⟨rfl, rfl, rfl⟩ := h
   subst h4
   refine ⟨h5, rfl, x, rfl, ?_⟩
   rcases hd : t.drop p with _ | ⟨y, r⟩
   ·rw [hd] at h3; simp at h3
   ·rw [hd] at h3
    simp at h3
    rw [h3.1, ← List.drop_drop, hd]; rfl
abbrev Lt := Nat × Nat × Nat × Nat × Nat × Bs
end Go.Proofs.Ytnhcfmmdaihneaa.Pl
namespace Go.Proofs.Ytnhcfmmdaihneaa.Pl
set_option linter.unusedVariables false
set_option linter.unusedSimpArgs false
set_option linter.unusedSectionVars false
abbrev Lf := Bs × Bs
def ltB (a b : Bs) : Bool := Op.bytesLess a b
def lfAt (l : List Lf) (i : Nat) : Lf := l.getD i ([], [])
def z1L (l : List Lf) (i : Nat) : Bool := z1N (lfAt l i).1 && z1u (lfAt l i).2 && (i == 0 || ltB (lfAt l (i - 1)).1 (lfAt l i).1)
def leavesOk (l : List Lf) : Bool := decide (l.length ≤ 24) && (List.range l.length).all (z1L l)
theorem z3S {l : List Lf} {k : Nat} (hk : k < l.length) (h : z1L l k = false) : leavesOk l = false := by
 have : (List.range l.length).all (z1L l) = false := by
  rw [List.all_eq_false]
  exact ⟨k, List.mem_range.2 hk, by simp [h]⟩
 rw [leavesOk, this, Bool.and_false]
theorem z3p {l : List Lf} (h : 24 < l.length) : leavesOk l = false := by
 have : decide (l.length ≤ 24) = false := by simp; omega
 rw [leavesOk, this, Bool.false_and]
theorem z2m {l : List Lf} (hl : l.length ≤ 24) (h : ∀ k, k < l.length → z1L l k = true) : leavesOk l = true := by
 have h1 : decide (l.length ≤ 24) = true := by simpa using hl
 have h2 : (List.range l.length).all (z1L l) = true := List.all_eq_true.2 fun k hk => h k (List.mem_range.1 hk)
 rw [leavesOk, h1, h2]; rfl
theorem z6P {l : List Lf} : leavesOk l = true ↔ l.length ≤ 24 ∧ ∀ k, k < l.length → z1L l k = true := by
 constructor
 ·intro h
  rw [leavesOk, Bool.and_eq_true, decide_eq_true_iff, List.all_eq_true] at h
  exact ⟨h.1, fun k hk => h.2 k (List.mem_range.2 hk)⟩
 ·rintro ⟨h1, h2⟩; exact z2m h1 h2
def z1f (x : Lf) : Bs := z09 x.1 ++ z09 x.2
def z0l (l : List Lf) : Bs := z0d l.length ++ l.flatMap z1f
def decG (k : Nat) (out : Bs) : Bs := if k = 0 then out else decG (k / 10) (UInt8.ofNat (48 + k % 10) :: out)
termination_by k
decreasing_by omega
theorem z6Q (out : Bs) : decG 0 out = out := by rw [decG, if_pos rfl]
theorem z6R {k : Nat} (h : k ≠ 0) (out : Bs) : decG k out = decG (k / 10) (UInt8.ofNat (48 + k % 10) :: out) := by rw [decG, if_neg h]
def z0G (k : Nat) : Bs := if k = 0 then [109, 48] else 109 :: decG k []
abbrev Sh := Nat → Bool → Bs × Nat × Bool
def z0A (sh : Sh) : Nat → Nat → Bool → List Lf × Nat × Bool
 | 0, p, b => ([], p, b)
 | _ + 1, p, true => ([], p, true)
 | n + 1, p, false => (((sh p false).1, (sh (sh p false).2.1 (sh p false).2.2).1) :: (z0A sh n (sh (sh p false).2.1 (sh p false).2.2).2.1 (sh (sh p false).2.1 (sh p false).2.2).2.2).1,
     (z0A sh n (sh (sh p false).2.1 (sh p false).2.2).2.1 (sh (sh p false).2.1 (sh p false).2.2).2.2).2)
def LvAt (sh : Sh) (R : List Lf × Nat × Bool) (n : Nat) (l : List Lf) (q : Nat) (b : Bool) : Prop := R = (l ++ (z0A sh n q b).1, (z0A sh n q b).2)
theorem LvAt.start (sh : Sh) (n q : Nat) (b : Bool) : LvAt sh (z0A sh n q b) n [] q b := rfl
theorem LvAt.step {sh : Sh} {R : List Lf × Nat × Bool} {n q q1 q2 : Nat} {l : List Lf} {a v : Bs} {b1 b2 : Bool} (h : LvAt sh R (n + 1) l q false) (h1 : sh q false = (a, q1, b1)) (h2 : sh q1 b1 = (v, q2, b2)) : LvAt sh R n (l ++ [(a, v)]) q2 b2 := by
 unfold LvAt at h ⊢
 rw [h, z0A, h1]
 simp only [h2]
 simp
theorem LvAt.done {sh : Sh} {R : List Lf × Nat × Bool} {q : Nat} {l : List Lf} {b : Bool} (h : LvAt sh R 0 l q b) : R = (l, q, b) := by
 unfold LvAt at h; rw [h, z0A]; simp
theorem LvAt.bad {sh : Sh} {R : List Lf × Nat × Bool} {n q : Nat} {l : List Lf} (h : LvAt sh R n l q true) : R = (l, q, true) := by
 unfold LvAt at h; rw [h]
 cases n <;> simp [z0A]
def z1s (t : Bs) (p : Nat) (bad : Bool) : List Lf × Nat × Bool :=
 let r := z0A (z0p t) (z1G t p bad).1 (z1G t p bad).2.1 (if 24 < (z1G t p bad).1 then true else (z1G t p bad).2.2)
 (r.1, r.2.1, r.2.2 || !leavesOk r.1)
def z1A (t : Bs) (p : Nat) (bad : Bool) : List Lf × Nat × Bool :=
 z0A (z0X t) (min (numS t p bad).1 30) (numS t p bad).2.1 (numS t p bad).2.2
end Go.Proofs.Ytnhcfmmdaihneaa.Pl
namespace Go.Proofs.Ytnhcfmmdaihneaa.Pl
set_option linter.unusedVariables false
set_option linter.unusedSimpArgs false
set_option linter.unusedSectionVars false
theorem z2L (sh : Sh) (n q : Nat) : z0A sh n q true = ([], q, true) := by cases n <;> rfl
theorem z33 {sh : Sh} {n q q1 q2 : Nat} {a v : Bs} {b1 b2 : Bool} (h1 : sh q false = (a, q1, b1)) (h2 : sh q1 b1 = (v, q2, b2)) :
 z0A sh (n + 1) q false = ((a, v) :: (z0A sh n q2 b2).1, (z0A sh n q2 b2).2) := by
 rw [z0A, h1]; simp only [h2]
theorem z3T (t : Bs) : ∀ (n q : Nat) (b : Bool), ((z0A (z0p t) n q b).2.2 = true ∧ (z0A (z0X t) n q b).2.2 = true) ∨ z0A (z0p t) n q b = z0A (z0X t) n q b
 | 0, q, b => .inr rfl
 | n + 1, q, true => .inr rfl
 | n + 1, q, false => by
   rcases h1 : z0p t q false with ⟨a, q1, b1⟩
   have h1' : z0X t q false = (a, q1, b1) := by rw [z4D]; exact h1
   rcases h2 : z0p t q1 b1 with ⟨v, q2, b2⟩
   rcases h2' : z0X t q1 b1 with ⟨v', q2', b2'⟩
   rw [z33 h1 h2, z33 h1' h2']
   cases b1
   ·rw [z4D, h2] at h2'
    cases h2'
    rcases z3T t n q2 b2 with h | h
    ·exact .inl h
    ·right; rw [h]
   ·have e1 := z7M t q1
    have e2 := z9l t q1
    rw [h2] at e1
    rw [h2'] at e2
    simp only at e1 e2
    subst e1; subst e2
    simp [z2L]
theorem z5j {t : Bs} : ∀ {n q q2 : Nat} {l : List Lf}, z0A (z0p t) n q false = (l, q2, false) → q ≤ t.length →
 l.length = n ∧ q2 ≤ t.length ∧ t.drop q = l.flatMap z1f ++ t.drop q2
 | 0, q, q2, l, h, hq => by
   simp only [z0A] at h
   cases h
   exact ⟨rfl, hq, by simp⟩
 | n + 1, q, q2, l, h, hq => by
   rcases h1 : z0p t q false with ⟨a, q1, b1⟩
   rcases h2 : z0p t q1 b1 with ⟨v, q3, b2⟩
   rw [z33 h1 h2] at h
   cases b2
   ·obtain ⟨hb, _, d2, _⟩ := z1z h2
    subst hb
    obtain ⟨_, _, d1, _⟩ := z1z h1
    have l1 := (z0Y (bad := false) hq).1
    rw [h1] at l1
    have l2 := (z0Y (bad := false) (p := q1) l1).1
    rw [h2] at l2
    rcases hr : z0A (z0p t) n q3 false with ⟨l', q4, b4⟩
    rw [hr] at h
    simp only at h
    cases h
    obtain ⟨e1, e2, e3⟩ := z5j hr l2
    refine ⟨by simp [e1], e2, ?_⟩
    rw [List.flatMap_cons, z1f, d1, d2, e3]
    simp
   ·rw [z2L] at h
    simp at h
theorem z4E {sh : Sh} {t : Bs} (hs : ∀ p b, p ≤ t.length → (sh p b).2.1 ≤ t.length) : ∀ (n q : Nat) (b : Bool), q ≤ t.length → (z0A sh n q b).2.1 ≤ t.length
 | 0, q, b, h => h
 | n + 1, q, true, h => h
 | n + 1, q, false, h => z4E hs n _ _ (hs _ _ (hs _ _ h))
theorem z5k {t : Bs} {p : Nat} {b : Bool} (h : p ≤ t.length) : (z1s t p b).2.1 ≤ t.length := by
 simp only [z1s]
 exact z4E (fun p b hp => (z0Y hp).1) _ _ _ (z1X h).1
theorem z9m {t : Bs} {p : Nat} {b : Bool} (h : p ≤ t.length) : (z1A t p b).2.1 ≤ t.length := by
 simp only [z1A]
 exact z4E (fun p b hp => (z1K hp).1) _ _ _ (z32 h).1
end Go.Proofs.Ytnhcfmmdaihneaa.Pl
namespace Go.Proofs.Ytnhcfmmdaihneaa.Pl
set_option linter.unusedVariables false
set_option linter.unusedSimpArgs false
set_option linter.unusedSectionVars false
def zar (l : List Lf) (n : Bs) : Option Bs := (l.find? fun x => x.1 == n).map (·.2)
def z7N (l : List Lf) (n : Bs) : List Lf := l.filter fun x => x.1 != n
theorem z9n {l : List Lf} {k : Nat} (h : k < l.length) : lfAt l k = l[k] := by simp [lfAt, List.getD, List.getElem?_eq_getElem h]
theorem zas (l : List Lf) (k : Nat) (h : k < l.length) : l.take (k + 1) = l.take k ++ [lfAt l k] := by
 rw [List.take_add_one, List.getElem?_eq_getElem h, z9n h]; rfl
def lowL (l : List Lf) (n : Bs) : List Lf := l.filter fun x => ltB x.1 n
def highL (l : List Lf) (n : Bs) : List Lf := l.filter fun x => !(ltB x.1 n || decide (x.1 = n))
def putL (l : List Lf) (n v : Bs) : List Lf := lowL (z7N l n) n ++ [(n, v)] ++ highL (z7N l n) n
end Go.Proofs.Ytnhcfmmdaihneaa.Pl
namespace Go.Proofs.Ytnhcfmmdaihneaa.Pl
set_option linter.unusedVariables false
set_option linter.unusedSimpArgs false
set_option linter.unusedSectionVars false
theorem zca (a : Bs) : ltB a [] = false := by cases a <;> rfl
theorem zat (a b : UInt8) (x y : Bs) : ltB (a :: x) (b :: y) = (decide (a < b) || (a == b && ltB x y)) := rfl
theorem lt_irrefl : ∀ a : Bs, ltB a a = false
 | [] => rfl
 | a :: x => by rw [zat, lt_irrefl x]; simp
theorem lt_trans : ∀ {a b c : Bs}, ltB a b = true → ltB b c = true → ltB a c = true
 | _, [], _, h, _ => by rw [zca] at h; cases h
 | _, _, [], _, h => by rw [zca] at h; cases h
 | [], _ :: _, _ :: _, _, _ => rfl
 | a :: x, b :: y, c :: z, h, k => by
   rw [zat] at h k ⊢
   simp only [Bool.or_eq_true, decide_eq_true_eq, Bool.and_eq_true, beq_iff_eq] at h k ⊢
   rcases h with h | ⟨rfl, h⟩
   ·rcases k with k | ⟨rfl, k⟩
    ·exact .inl (UInt8.lt_trans h k)
    ·exact .inl h
   ·rcases k with k | ⟨rfl, k⟩
    ·exact .inl k
    ·exact .inr ⟨rfl, lt_trans h k⟩
def Sorted (l : List Lf) : Prop := l.Pairwise fun a b => ltB a.1 b.1 = true
theorem z2C {l : List Lf} (h : leavesOk l = true) : l.length ≤ 24 ∧ (∀ x ∈ l, z1N x.1 = true ∧ z1u x.2 = true) ∧ Sorted l := by
 obtain ⟨h1, h2⟩ := z6P.1 h
 have st : ∀ k (hk : k < l.length), z1N l[k].1 = true ∧ z1u l[k].2 = true ∧ (k = 0 ∨ ltB (lfAt l (k - 1)).1 l[k].1 = true) := fun k hk => by
  have := h2 k hk
  rw [z1L, z9n hk] at this
  simpa [and_assoc] using this
 refine ⟨h1, fun x hx => ?_, ?_⟩
 ·obtain ⟨k, hk, rfl⟩ := List.getElem_of_mem hx
  exact ⟨(st k hk).1, (st k hk).2.1⟩
 ·rw [Sorted, List.pairwise_iff_getElem]
  intro i j hi hj hij
  have key : ∀ d, (h : i + d + 1 < l.length) → ltB l[i].1 l[i + d + 1].1 = true := by
   intro d
   induction d with
   | zero =>
     intro h
     have := ((st (i + 1) h).2.2).resolve_left (by omega)
     rwa [Nat.add_sub_cancel, z9n hi] at this
   | succ d ih =>
     intro h
     have a := ih (by omega)
     have b := ((st (i + (d + 1) + 1) h).2.2).resolve_left (by omega)
     rw [Nat.add_sub_cancel, z9n (show i + (d + 1) < l.length by omega)] at b
     exact lt_trans a b
  have := key (j - i - 1) (by omega)
  simpa [show i + (j - i - 1) + 1 = j by omega] using this
theorem Sorted.filter {l : List Lf} (h : Sorted l) (f : Lf → Bool) : Sorted (l.filter f) := List.Pairwise.filter _ h
theorem z3L {t : Bs} : ∀ {l : List Lf} {p : Nat} {r : Bs}, (∀ x ∈ l, x.1.length ≤ 20000 ∧ x.2.length ≤ 20000) → t.drop p = l.flatMap z1f ++ r → z0A (z0p t) l.length p false = (l, p + (l.flatMap z1f).length, false)
 | [], p, r, _, _ => by simp [z0A]
 | x :: l, p, r, hs, h => by
   have h0 : t.drop p = z09 x.1 ++ (z09 x.2 ++ (l.flatMap z1f ++ r)) := by rw [h]; simp [z1f]
   have hx := hs x (by simp)
   have e1 := z0T hx.1 h0 false
   have hd1 : t.drop (p + (z09 x.1).length) = z09 x.2 ++ (l.flatMap z1f ++ r) := by
    rw [← List.drop_drop, h0, List.drop_left]
   have e2 := z0T hx.2 hd1 false
   have hd2 : t.drop (p + (z09 x.1).length + (z09 x.2).length) = l.flatMap z1f ++ r := by
    rw [← List.drop_drop, hd1, List.drop_left]
   have ih := z3L (fun y hy => hs y (by simp [hy])) hd2
   rw [List.length_cons, z0A, e1]
   simp only [e2, ih]
   simp [z1f]
   omega
theorem z26 {s : Bs} (h : z1N s = true) : s.length ≤ 12 := by
 simp [z1N, allN] at h; exact h.1.2
theorem z1T {s : Bs} (h : z1u s = true) : s.length ≤ 12 := by
 simp [z1u, allN] at h; exact h.1.2
end Go.Proofs.Ytnhcfmmdaihneaa.Pl
namespace Go.Proofs.Ytnhcfmmdaihneaa.Pl
set_option linter.unusedVariables false
set_option linter.unusedSimpArgs false
set_option linter.unusedSectionVars false
theorem z7O {t : Bs} {p q : Nat} {b : Bool} {l : List Lf} (h : z1s t p b = (l, q, false)) (hp : p ≤ t.length) : b = false ∧ leavesOk l = true ∧ q ≤ t.length ∧ t.drop p = z0l l ++ t.drop q := by
 unfold z1s at h
 rcases hN : z1G t p b with ⟨n, p1, b1⟩
 have hle := (z1X (t := t) (p := p) (bad := b) hp).1
 rw [hN] at h hle
 simp only at h hle
 rcases hL : z0A (z0p t) n p1 (if 24 < n then true else b1) with ⟨l', q', b'⟩
 rw [hL] at h
 simp only [Prod.mk.injEq, Bool.or_eq_false_iff] at h
 obtain ⟨rfl, rfl, rfl, ho⟩ := h
 have ho : leavesOk l' = true := by simpa using ho
 by_cases h24 : 24 < n
 ·rw [if_pos h24, z2L] at hL; cases hL
 ·rw [if_neg h24] at hL
  cases b1 with
  | true => rw [z2L] at hL; cases hL
  | false =>
    obtain ⟨rfl, _, e1, _⟩ := z3m hN
    obtain ⟨e2, e3, e4⟩ := z5j hL hle
    exact ⟨rfl, ho, e3, by rw [e1, e4, z0l, e2, List.append_assoc]⟩
theorem z7P {t : Bs} {p : Nat} {l : List Lf} {r : Bs} (ho : leavesOk l = true) (h : t.drop p = z0l l ++ r) : z1s t p false = (l, p + (z0l l).length, false) := by
 obtain ⟨h1, h2, _⟩ := z2C ho
 have h0 : t.drop p = z0d l.length ++ (l.flatMap z1f ++ r) := by rw [h, z0l, List.append_assoc]
 have hN := z1J (by omega) h0 false
 have hd : t.drop (p + (z0d l.length).length) = l.flatMap z1f ++ r := by rw [← List.drop_drop, h0, List.drop_left]
 have hL := z3L (fun x hx => by have := z26 (h2 x hx).1; have := z1T (h2 x hx).2; omega) hd
 have hno : ¬ 24 < l.length := by omega
 simp only [z1s, hN, if_neg hno, hL, ho]
 simp [z0l, Nat.add_assoc]
theorem z7Q {t : Bs} {p : Nat} {l : List Lf} {r : Bs} (ho : leavesOk l = true) (h : t.drop p = z0l l ++ r) : z1A t p false = (l, p + (z0l l).length, false) := by
 obtain ⟨h1, h2, _⟩ := z2C ho
 have h0 : t.drop p = z0d l.length ++ (l.flatMap z1f ++ r) := by rw [h, z0l, List.append_assoc]
 have hN := z1J (by omega) h0 false
 have hd : t.drop (p + (z0d l.length).length) = l.flatMap z1f ++ r := by rw [← List.drop_drop, h0, List.drop_left]
 have hL := z3L (fun x hx => by have := z26 (h2 x hx).1; have := z1T (h2 x hx).2; omega) hd
 have hmin : min l.length 30 = l.length := by omega
 simp only [z1A, z6O, hN, hmin]
 rcases z3T t l.length (p + (z0d l.length).length) false with hb | he
 ·rw [hL] at hb; cases hb.1
 ·rw [← he, hL]; simp [z0l, Nat.add_assoc]
def z1l (t : Bs) (w : Nat) : Nat → Nat → Bool → List Bs × Nat × Bool
 | 0, p, b => ([], p, b)
 | n + 1, p, b => ((z0h t p b w).1 :: (z1l t w n (z0h t p b w).2.1 (z0h t p b w).2.2).1, (z1l t w n (z0h t p b w).2.1 (z0h t p b w).2.2).2)
def z27 (t : Bs) (w : Int) : Nat → Nat → Bool → List Bs × Nat × Bool
 | 0, p, b => ([], p, b)
 | _ + 1, p, true => ([], p, true)
 | n + 1, p, false => ((z0t t p false w).1 :: (z27 t w n (z0t t p false w).2.1 (z0t t p false w).2.2).1, (z27 t w n (z0t t p false w).2.1 (z0t t p false w).2.2).2)
theorem z4F (t : Bs) (p w : Nat) : z0h t p true w = ([], p, true) := by simp [z0h]
theorem z6S (t : Bs) (w : Nat) : ∀ (n p : Nat), (z1l t w n p true).2.2 = true
 | 0, p => rfl
 | n + 1, p => by simp only [z1l, z4F]; exact z6S t w n p
theorem z28 {t : Bs} {w : Nat} : ∀ {n p q : Nat} {b : Bool} {s : List Bs}, z1l t w n p b = (s, q, false) → p ≤ t.length → b = false ∧ s.length = n ∧ (∀ x ∈ s, x.length = w) ∧ q ≤ t.length ∧ t.drop p = s.flatten ++ t.drop q
 | 0, p, q, b, s, h, hp => by
   simp only [z1l, Prod.mk.injEq] at h
   obtain ⟨rfl, rfl, rfl⟩ := h
   exact ⟨rfl, rfl, fun x hx => absurd hx (List.not_mem_nil), hp, by simp⟩
 | n + 1, p, q, b, s, h, hp => by
   by_cases hc : b = true ∨ t.length - p < w
   ·have e : z0h t p b w = ([], p, true) := by rw [z0h, if_pos hc]
    simp only [z1l, e] at h
    have := z6S t w n p
    have h2 := congrArg (fun x => x.2.2) h
    simp only at h2
    rw [this] at h2; cases h2
   ·have e : z0h t p b w = ((t.drop p).take w, p + w, b) := by rw [z0h, if_neg hc]
    have hb : b = false := by cases b <;> simp at hc ⊢
    have hw : ¬ t.length - p < w := fun h => hc (.inr h)
    simp only [z1l, e] at h
    rcases hR : z1l t w n (p + w) b with ⟨s', q', b'⟩
    rw [hR] at h
    simp only [Prod.mk.injEq] at h
    obtain ⟨rfl, rfl, rfl⟩ := h
    obtain ⟨_, i2, i3, i4, i5⟩ := z28 hR (by omega)
    refine ⟨hb, by simp [i2], fun x hx => ?_, i4, ?_⟩
    ·rcases List.mem_cons.1 hx with rfl | hx
     ·simp; omega
     ·exact i3 x hx
    ·rw [List.flatten_cons, List.append_assoc, ← i5, ← List.drop_drop, List.take_append_drop]
theorem z1t {t : Bs} {w : Nat} : ∀ {s : List Bs} {p : Nat} {r : Bs}, (∀ x ∈ s, x.length = w) → t.drop p = s.flatten ++ r → z1l t w s.length p false = (s, p + s.flatten.length, false)
 | [], p, r, _, _ => by simp [z1l]
 | x :: s, p, r, hs, h => by
   have hx := hs x (by simp)
   have hl := congrArg List.length h
   simp at hl
   have e : z0h t p false w = (x, p + w, false) := by
    rw [z0h, if_neg (by simp; omega), h, List.flatten_cons, List.append_assoc, ← hx, List.take_left]
   have hd : t.drop (p + w) = s.flatten ++ r := by rw [← List.drop_drop, h, List.flatten_cons, List.append_assoc, ← hx, List.drop_left]
   have ih := z1t (fun y hy => hs y (by simp [hy])) hd
   rw [List.length_cons, z1l, e]
   simp only [ih]
   simp [hx]; omega
theorem z6T {t : Bs} {w : Nat} : ∀ {s : List Bs} {p : Nat} {r : Bs}, (∀ x ∈ s, x.length = w) → t.drop p = s.flatten ++ r → z27 t (w : Int) s.length p false = (s, p + s.flatten.length, false)
 | [], p, r, _, _ => by simp [z27]
 | x :: s, p, r, hs, h => by
   have hx := hs x (by simp)
   have hl := congrArg List.length h
   simp at hl
   have e : z0t t p false (w : Int) = (x, p + w, false) := by
    rw [z0t, if_neg (by omega), Int.toNat_natCast, z0h, if_neg (by simp; omega), h, List.flatten_cons, List.append_assoc, ← hx, List.take_left]
   have hd : t.drop (p + w) = s.flatten ++ r := by rw [← List.drop_drop, h, List.flatten_cons, List.append_assoc, ← hx, List.drop_left]
   have ih := z6T (fun y hy => hs y (by simp [hy])) hd
   rw [List.length_cons, z27, e]
   simp only [ih]
   simp [hx]; omega
def z0f (l : List Lf) (s : List Bs) : Bs := z0l l ++ (z0d s.length ++ s.flatten)
def wideB (s : List Bs) (w : Int) : Bool := s.all (fun x => decide ((x.length : Int) = w)) && inB w 1 32
def z0u (l : List Lf) (s : List Bs) (w : Int) : Bool := leavesOk l && decide (s.length ≤ 8) && wideB s w
def z21 (t : Bs) (w : Nat) : Option (List Lf × List Bs) :=
 let A := z1s t 0 false
 let B := z1G t A.2.1 A.2.2
 if 8 < B.1 then none else
  let C := z1l t w B.1 B.2.1 B.2.2
  if z2i C.2.2 C.2.1 t.length = true then some (A.1, C.1) else none
def z13 (t : Bs) (w : Int) : Option (List Lf × List Bs) :=
 let A := z1A t 0 false
 let B := numS t A.2.1 A.2.2
 let C := z27 t w (min B.1 10) B.2.1 B.2.2
 if C.2.2 = false ∧ z0u A.1 C.1 w = true ∧ z0f A.1 C.1 = t then some (A.1, C.1) else none
theorem z19 {l : List Lf} {s : List Bs} {w : Int} : z0u l s w = true ↔ leavesOk l = true ∧ s.length ≤ 8 ∧ (∀ x ∈ s, (x.length : Int) = w) ∧ 1 ≤ w ∧ w ≤ 32 := by
 simp [z0u, wideB, inB, and_assoc]
theorem zau {t : Bs} {w : Nat} (hw : 1 ≤ w ∧ w ≤ 32) {l : List Lf} {s : List Bs} : z21 t w = some (l, s) ↔ z0u l s w = true ∧ t = z0f l s := by
 rw [z19]
 constructor
 ·intro h
  rcases hA : z1s t 0 false with ⟨l', p1, b1⟩
  have hp1 := z5k (t := t) (p := 0) (b := false) (by omega)
  rcases hB : z1G t p1 b1 with ⟨n, p2, b2⟩
  rcases hC : z1l t w n p2 b2 with ⟨s', p3, b3⟩
  rw [hA] at hp1
  simp only at hp1
  have hp2 := (z1X (t := t) (p := p1) (bad := b1) hp1).1
  rw [hB] at hp2
  simp only at hp2
  simp only [z21, hA, hB, hC] at h
  split at h
  ·cases h
  ·rename_i h8
   split at h
   ·rename_i hd
    injection h with h; injection h with e1 e2; subst e1; subst e2
    simp only [z2i, Bool.and_eq_true, Bool.not_eq_true', beq_iff_eq] at hd
    obtain ⟨rfl, rfl⟩ := hd
    obtain ⟨rfl, c2, c3, c4, c5⟩ := z28 hC hp2
    obtain ⟨rfl, _, d1, _⟩ := z3m hB
    obtain ⟨_, a2, a3, a4⟩ := z7O hA (by omega)
    refine ⟨⟨a2, by omega, fun x hx => by rw [c3 x hx], by omega, by omega⟩, ?_⟩
    rw [List.drop_zero] at a4
    rw [List.drop_length, List.append_nil] at c5
    rw [a4, d1, c5, c2.symm]; rfl
   ·cases h
 ·rintro ⟨⟨h1, h2, h3, h4, h5⟩, ht⟩
  have hA := z7P (t := t) (p := 0) h1 (r := z0d s.length ++ s.flatten) (by rw [List.drop_zero, ht]; rfl)
  have hd1 : t.drop (0 + (z0l l).length) = z0d s.length ++ s.flatten := by rw [ht, z0f, Nat.zero_add, List.drop_left]
  have hB := z1J (by omega) hd1 false
  have hd2 : t.drop (0 + (z0l l).length + (z0d s.length).length) = s.flatten ++ [] := by rw [← List.drop_drop, hd1, List.drop_left, List.append_nil]
  have hC := z1t (w := w) (fun x hx => by have := h3 x hx; omega) hd2
  have hl : t.length = (z0l l).length + (z0d s.length).length + s.flatten.length := by rw [ht, z0f]; simp [Nat.add_assoc]
  simp only [z21, hA, hB, hC, if_neg (show ¬ 8 < s.length by omega)]
  rw [if_pos]
  rw [hl]; simp [z2i]
theorem zav {t : Bs} {w : Int} {l : List Lf} {s : List Bs} : z13 t w = some (l, s) ↔ z0u l s w = true ∧ t = z0f l s := by
 constructor
 ·intro h
  simp only [z13] at h
  split at h
  ·rename_i hc
   injection h with h; injection h with e1 e2
   rw [e1, e2] at hc
   exact ⟨hc.2.1, hc.2.2.symm⟩
  ·cases h
 ·rintro ⟨ho, ht⟩
  obtain ⟨h1, h2, h3, h4, h5⟩ := z19.1 ho
  obtain ⟨wn, rfl⟩ : ∃ n : Nat, w = n := ⟨w.toNat, by omega⟩
  have hA := z7Q (t := t) (p := 0) h1 (r := z0d s.length ++ s.flatten) (by rw [List.drop_zero, ht]; rfl)
  have hd1 : t.drop (0 + (z0l l).length) = z0d s.length ++ s.flatten := by rw [ht, z0f, Nat.zero_add, List.drop_left]
  have hB := z1J (by omega) hd1 false
  have hd2 : t.drop (0 + (z0l l).length + (z0d s.length).length) = s.flatten ++ [] := by rw [← List.drop_drop, hd1, List.drop_left, List.append_nil]
  have hC := z6T (w := wn) (fun x hx => by have := h3 x hx; omega) hd2
  have hmin : min s.length 10 = s.length := by omega
  simp only [z13, hA, z6O, hB, hmin, hC]
  rw [if_pos ⟨trivial, ho, ht.symm⟩]
end Go.Proofs.Ytnhcfmmdaihneaa.Pl
namespace Go.Proofs.Ytnhcfmmdaihneaa.Pl
set_option linter.unusedVariables false
set_option linter.unusedSimpArgs false
set_option linter.unusedSectionVars false
def shlN (x : UInt32) (n : Nat) : UInt32 := UInt32.ofNat (x.toNat * 2 ^ n)
def shrN (x : UInt32) (n : Nat) : UInt32 := UInt32.ofNat (x.toNat / 2 ^ n)
def o8 (b : UInt8) : UInt32 := UInt32.ofNat b.toNat
def z3M (x : UInt32) (n : Nat) : UInt32 := shrN x n ||| shlN x (32 - n)
def wordB (b : Bs) (i : Nat) : UInt32 := shlN (o8 (b.getD (4 * i) 0)) 24 ||| shlN (o8 (b.getD (4 * i + 1) 0)) 16 ||| shlN (o8 (b.getD (4 * i + 2) 0)) 8 ||| o8 (b.getD (4 * i + 3) 0)
def upd (f : Nat → UInt32) (i : Nat) (x : UInt32) : Nat → UInt32 := fun j => bif Nat.beq j i then x else f j
def sched0 (b : Bs) (i : Nat) : Nat → UInt32 := (List.range i).foldl (fun ws k => upd ws k (wordB b k)) (fun _ => 0)
def zaB (ws : Nat → UInt32) (i : Nat) : Nat → UInt32 :=
 upd ws i (ws (i - 16) + (z3M (ws (i - 15)) 7 ^^^ z3M (ws (i - 15)) 18 ^^^ shrN (ws (i - 15)) 3) + ws (i - 7) + (z3M (ws (i - 2)) 17 ^^^ z3M (ws (i - 2)) 19 ^^^ shrN (ws (i - 2)) 10))
def sched1 (ws : Nat → UInt32) (i : Nat) : Nat → UInt32 := (List.range (i - 16)).foldl (fun ws k => zaB ws (k + 16)) ws
structure W8 where
 a : UInt32
 b : UInt32
 c : UInt32
 d : UInt32
 e : UInt32
 f : UInt32
 g : UInt32
 h : UInt32
def W8.list (s : W8) : List UInt32 := [s.a, s.b, s.c, s.d, s.e, s.f, s.g, s.h]
def rnd (s : W8) (k w : UInt32) : W8 :=
 let one := s.h + (z3M s.e 6 ^^^ z3M s.e 11 ^^^ z3M s.e 25) + (s.e &&& s.f ^^^ (s.e ^^^ 4294967295) &&& s.g) + k + w
 let two := (z3M s.a 2 ^^^ z3M s.a 13 ^^^ z3M s.a 22) + (s.a &&& s.b ^^^ s.a &&& s.c ^^^ s.b &&& s.c)
 ⟨one + two, s.a, s.b, s.c, s.d + one, s.e, s.f, s.g⟩
def rnds (s : W8) (ks ws : Nat → UInt32) (i : Nat) : W8 := (List.range i).foldl (fun s j => rnd s (ks j) (ws j)) s
def W8.fn (s : W8) : Nat → UInt32 := fun j => s.list.getD j 0
def add8 (h s : W8) : W8 := ⟨h.a + s.a, h.b + s.b, h.c + s.c, h.d + s.d, h.e + s.e, h.f + s.f, h.g + s.g, h.h + s.h⟩
def blockF (h : W8) (b : Bs) (ks : Nat → UInt32) : W8 := add8 h (rnds h ks (sched1 (sched0 b 16) 64) 64)
def z6X : Nat → Bs → Bs
 | 0, t => t
 | n + 1, t => if t.length % 64 = 56 then t else z6X n (t ++ [0])
def lenB (n : Nat) (i : Nat) : Bs := (List.range i).map fun j => UInt8.ofNat (n / 2 ^ (8 * (7 - j)))
def padB (t : Bs) : Bs := z6X 64 (t ++ [128]) ++ lenB (8 * t.length) 8
def zcQ (h : W8) (p : Bs) (ks : Nat → UInt32) (i : Nat) : W8 := (List.range i).foldl (fun h j => blockF h ((p.drop (64 * j)).take 64) ks) h
def out4 (out : Bs) (x : UInt32) (i : Nat) : Bs :=
 (((out.set (4 * i) (UInt8.ofNat (shrN x 24).toNat)).set (4 * i + 1) (UInt8.ofNat (shrN x 16).toNat)).set (4 * i + 2) (UInt8.ofNat (shrN x 8).toNat)).set (4 * i + 3) (UInt8.ofNat x.toNat)
def outB (h : Nat → UInt32) (i : Nat) : Bs := (List.range i).foldl (fun out j => out4 out (h j) j) (List.replicate 32 0)
def first8 : W8 := ⟨1779033703, 3144134277, 1013904242, 2773480762, 1359893119, 2600822924, 528734635, 1541459225⟩
def keys64 : List UInt32 := [1116352408, 1899447441, 3049323471, 3921009573, 961987163, 1508970993, 2453635748, 2870763221, 3624381080, 310598401, 607225278, 1426881987, 1925078388, 2162078206, 2614888103, 3248222580, 3835390401, 4022224774, 264347078, 604807628, 770255983, 1249150122, 1555081692, 1996064986, 2554220882, 2821834349, 2952996808, 3210313671, 3336571891, 3584528711, 113926993, 338241895, 666307205, 773529912, 1294757372, 1396182291, 1695183700, 1986661051, 2177026350, 2456956037, 2730485921, 2820302411, 3259730800, 3345764771, 3516065817, 3600352804, 4094571909, 275423344, 430227734, 506948616, 659060556, 883997877, 958139571, 1322822218, 1537002063, 1747873779, 1955562222, 2024104815, 2227730452, 2361852424, 2428436474, 2756734187, 3204031479, 3329325298]
def kF : Nat → UInt32 := fun j => keys64.getD j 0
def zaC (t : Bs) : Bs := outB (zcQ first8 (padB t) kF ((padB t).length / 64)).fn 8
end Go.Proofs.Ytnhcfmmdaihneaa.Pl
namespace Go.Proofs.Ytnhcfmmdaihneaa.Pl
set_option linter.unusedVariables false
set_option linter.unusedSimpArgs false
set_option linter.unusedSectionVars false
def four (x : UInt32) : Bs := [UInt8.ofNat (shrN x 24).toNat, UInt8.ofNat (shrN x 16).toNat, UInt8.ofNat (shrN x 8).toNat, UInt8.ofNat x.toNat]
def ixB (s : Bs) : Nat := ((zaC s).getD 0 0).toNat
end Go.Proofs.Ytnhcfmmdaihneaa.Pl
namespace Go.Proofs.Ytnhcfmmdaihneaa.Pl
set_option linter.unusedVariables false
set_option linter.unusedSimpArgs false
set_option linter.unusedSectionVars false
def tagB (k : Nat) (ps : List Bs) : Bs := UInt8.ofNat k :: ps.flatMap z09
def cutB (t : Bs) (w : Nat) : Bs := (zaC t).take w
def z71 (k : Nat) (ps : List Bs) (w : Nat) : Bs := cutB (tagB k ps) w
def partsB (l : List Lf) : List Bs := l.flatMap fun x => [x.1, x.2]
def zcW (l : List Lf) : Bs := if l = [] then tagB 1 [] else tagB 2 (partsB l)
def emB (w : Nat) : Nat → Bs
 | 0 => z71 1 [] w
 | d + 1 => z71 3 [emB w d, emB w d] w
def atP (l : List Lf) (d p : Nat) : List Lf := l.filter fun x => decide (ixB x.1 / 2 ^ d = p)
def zcX (l : List Lf) (w : Nat) : Nat → Nat → Bs
 | 0, p => cutB (zcW (atP l 0 p)) w
 | d + 1, p => if atP l (d + 1) p = [] then emB w (d + 1) else z71 3 [zcX l w d (2 * p), zcX l w d (2 * p + 1)] w
def bitB (ix j : Nat) : Nat := ix / 2 ^ j % 2
def zcY (ix j : Nat) (h s : Bs) : List Bs := if bitB ix j = 1 then [s, h] else [h, s]
def z7W (ix w : Nat) : Nat → Bs → List Bs → List Bs × Bs
 | _, h, [] => ([], h)
 | j, h, s :: ss =>
   let t := tagB 3 (zcY ix j h s)
   (t :: (z7W ix w (j + 1) (cutB t w) ss).1, (z7W ix w (j + 1) (cutB t w) ss).2)
end Go.Proofs.Ytnhcfmmdaihneaa.Pl
namespace Go.Proofs.Ytnhcfmmdaihneaa.Pl
set_option linter.unusedVariables false
set_option linter.unusedSimpArgs false
set_option linter.unusedSectionVars false
abbrev Ch := Int × Bs × Bs
def tells (l : List Lf) (n : Bs) : Bs × Bool := ((zar l n).getD [], (zar l n).isSome)
end Go.Proofs.Ytnhcfmmdaihneaa.Pl
