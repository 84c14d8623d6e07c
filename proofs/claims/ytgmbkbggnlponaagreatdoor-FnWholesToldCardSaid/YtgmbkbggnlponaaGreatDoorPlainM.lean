/- Plain: the checksum. Plain: what is read is what was written, and the other way round. Plain: letters. Plain: entries. Entries, no program in sight: both readers agree. Plain: an entry is looked up, put, dropped. Plain: what holds of an entry that is put, and of one that is dropped; entries are read as they were written. Plain: proofs are read as they were written, by the program and by the reference alike. Plain: words of 32 bits, and the digest as the reference reckons it. Plain: the digest as the program reckons it is the reference's. Plain: the tree of hashes, and the way up from a bucket to the root. Plain: changes are applied one by one; the last change of a name counts. -/
import Derived.Test.YtgmbkbggnlponaaGreatDoorPlain
import Derived.Laws.BitsAllLaws
import Derived.KernelRfl
namespace Go.Proofs.YtgmbkbggnlponaaGreatDoor.Pl
set_option linter.unusedVariables false
set_option linter.unusedSimpArgs false
set_option linter.unusedSectionVars false
def step1 (s : Nat) : Nat := if s % 2 = 1 then (s / 2) ^^^ 3558460437 else s / 2
def stepN : Nat → Nat → Nat
 | 0, s => s
 | n + 1, s => step1 (stepN n s)
def zhK (s : Nat) (l : Bs) : Nat := l.foldl (fun s b => stepN 8 (s ^^^ b.toNat)) s
def zeH (l : Bs) : Nat := zhK 4294967295 l
def zeI (x : Nat) : Bs := [UInt8.ofNat (x / 16777216), UInt8.ofNat (x / 65536), UInt8.ofNat (x / 256), UInt8.ofNat x]
def zh3 (t : Bs) : Bs := t ++ zeI (zeH t)
def zg9 (t : Bs) : Option Bs :=
 if 4 ≤ t.length ∧ t.length ≤ 20004 ∧ t.drop (t.length - 4) = zeI (zeH (t.take (t.length - 4))) then some (t.take (t.length - 4)) else none
end Go.Proofs.YtgmbkbggnlponaaGreatDoor.Pl
namespace Go.Proofs.YtgmbkbggnlponaaGreatDoor.Pl
set_option linter.unusedVariables false
set_option linter.unusedSimpArgs false
set_option linter.unusedSectionVars false
theorem zck : ∀ (f k n : Nat) (r : Bs) (m c : Nat), rvGo f k n r = some (m, c) →
 ∃ (ds : Bs) (x : UInt8) (r' : Bs), r = ds ++ x :: r' ∧ (∀ d ∈ ds, 128 ≤ d.toNat) ∧ x.toNat < 128 ∧ c = k + ds.length + 1 ∧ m = n + val (ds ++ [x]) * 128 ^ k ∧ (x.toNat ≠ 0 ∨ (ds = [] ∧ k = 0))
 | 0, _, _, _, _, _, h => by cases h
 | _ + 1, _, _, [], _, _, h => by cases h
 | f + 1, k, n, x :: r, m, c, h => by
   rw [rvGo] at h
   split at h
   ·rename_i hx
    split at h
    ·cases h
    ·rename_i hb
     injection h with h; injection h with h1 h2
     refine ⟨[], x, r, rfl, by simp, hx, by simp; omega, ?_, ?_⟩
     ·have : val ([] ++ [x]) = x.toNat := by simp [val]; omega
      rw [this, z59, h1]
     ·by_cases h0 : x.toNat = 0
      ·right; refine ⟨rfl, ?_⟩; omega
      ·exact .inl h0
   ·rename_i hx
    obtain ⟨ds, y, r', e, hd, hy, hc, hm, hz⟩ := zck f (k + 1) _ r m c h
    refine ⟨x :: ds, y, r', by rw [e]; rfl, ?_, hy, by rw [List.length_cons]; omega, ?_, ?_⟩
    ·intro d hd'
     rcases List.mem_cons.1 hd' with rfl | hd'
     ·omega
     ·exact hd d hd'
    ·rw [hm, List.cons_append, val, ← z59, Nat.pow_succ]
     have e1 : val (ds ++ [y]) * (128 ^ k * 128) = 128 * val (ds ++ [y]) * 128 ^ k := by rw [Nat.mul_comm (128 ^ k) 128, ← Nat.mul_assoc, Nat.mul_comm (val _) 128]
     rw [e1, Nat.add_mul, Nat.add_assoc]
    ·rcases hz with hz | ⟨_, hz⟩
     ·exact .inl hz
     ·omega
theorem z6y {t : Bs} {p n q : Nat} (h : z0G t p = some (n, q)) : t.drop p = z0g n ++ t.drop q ∧ q = p + (z0g n).length := by
 have hb := z1a h
 unfold z0G at h
 rcases hg : rvGo 5 0 0 (t.drop p) with _ | ⟨m, c⟩
 ·rw [hg] at h; cases h
 ·rw [hg] at h
  simp at h
  obtain ⟨rfl, rfl⟩ := h
  obtain ⟨ds, x, r', e, hd, hx, hc, hm, hz⟩ := zck _ _ _ _ _ _ hg
  simp at hm hc
  have hv : z0g m = ds ++ [x] := by
   rw [hm]
   refine (z4d x hx ds hd).2 ?_
   rcases hz with hz | ⟨hz, _⟩
   ·exact .inl hz
   ·exact .inr hz
  have hl : (z0g m).length = c := by rw [hv]; simp; omega
  refine ⟨?_, by rw [hl]⟩
  rw [← List.drop_drop, e, hv]
  have : (ds ++ x :: r').drop c = r' := by
   rw [hc]
   have e2 : ds ++ x :: r' = (ds ++ [x]) ++ r' := by simp
   rw [e2]
   have : ds.length + 1 = (ds ++ [x]).length := by simp
   rw [this, List.drop_left]
  rw [this]; simp
theorem z8N : ∀ (n : Nat), ∃ (ds : Bs) (x : UInt8), z0g n = ds ++ [x] ∧ (∀ d ∈ ds, 128 ≤ d.toNat) ∧ x.toNat < 128 ∧ (x.toNat ≠ 0 ∨ ds = []) ∧ val (ds ++ [x]) = n := by
 intro n
 induction n using Nat.strongRecOn with
 | ind n ih =>
   by_cases hn : n ≤ 127
   ·refine ⟨[], UInt8.ofNat n, z1m hn, by simp, ?_, .inr rfl, ?_⟩
    ·simp; omega
    ·simp [val]; omega
   ·obtain ⟨ds, x, e, hd, hx, hz, hv⟩ := ih (n / 128) (by omega)
    have ht : (UInt8.ofNat (128 + n % 128)).toNat = 128 + n % 128 := by simp; omega
    refine ⟨UInt8.ofNat (128 + n % 128) :: ds, x, by rw [z2N hn, e]; rfl, ?_, hx, ?_, ?_⟩
    ·intro d hd'
     rcases List.mem_cons.1 hd' with rfl | hd'
     ·omega
     ·exact hd d hd'
    ·rcases hz with hz | hz
     ·exact .inl hz
     ·subst hz
      left
      intro h0
      simp [val, h0] at hv
      omega
    ·rw [List.cons_append, val, hv, ht]; omega
theorem zcl : ∀ (ds : Bs) (x : UInt8) (r : Bs) (f k n : Nat), (∀ d ∈ ds, 128 ≤ d.toNat) → x.toNat < 128 → (x.toNat ≠ 0 ∨ (ds = [] ∧ k = 0)) → ds.length < f → n + val (ds ++ [x]) * 128 ^ k ≤ 1000000000 →
 rvGo f k n (ds ++ x :: r) = some (n + val (ds ++ [x]) * 128 ^ k, k + ds.length + 1)
 | [], x, r, f + 1, k, n, _, hx, hz, _, hm => by
   have hv : val ([] ++ [x]) = x.toNat := by simp [val]; omega
   rw [hv, z59] at hm ⊢
   exact zdZ f k n x r hx (by rcases hz with h | ⟨_, h⟩ <;> omega) hm
 | d :: ds, x, r, f + 1, k, n, hd, hx, hz, hf, hm => by
   have hd1 : 128 ≤ d.toNat := hd d (by simp)
   have hz1 : x.toNat ≠ 0 := by
    rcases hz with h | ⟨h, _⟩
    ·exact h
    ·cases h
   have e : n + d.toNat % 128 * 2 ^ (7 * k) + val (ds ++ [x]) * 128 ^ (k + 1) = n + val (d :: ds ++ [x]) * 128 ^ k := by
    rw [List.cons_append, val, ← z59, Nat.pow_succ]
    have e1 : val (ds ++ [x]) * (128 ^ k * 128) = 128 * val (ds ++ [x]) * 128 ^ k := by rw [Nat.mul_comm (128 ^ k) 128, ← Nat.mul_assoc, Nat.mul_comm (val _) 128]
    rw [e1, Nat.add_mul, Nat.add_assoc]
   rw [List.cons_append, z63 _ _ _ _ _ (by omega), zcl ds x r f (k + 1) _ (fun y hy => hd y (by simp [hy])) hx (.inl hz1) (by simpa using hf) (by rw [e]; exact hm), e]
   simp; omega
theorem z6z {t : Bs} {p n : Nat} {r : Bs} (hn : n ≤ 1000000000) (h : t.drop p = z0g n ++ r) : z0G t p = some (n, p + (z0g n).length) := by
 obtain ⟨ds, x, e, hd, hx, hz, hv⟩ := z8N n
 have hl := z2O (n := n) (by omega)
 rw [e] at hl
 simp at hl
 have hg := zcl ds x r 5 0 0 hd hx (by rcases hz with h | h <;> simp [h]) (by omega) (by rw [hv]; omega)
 rw [z0G, h, e, List.append_assoc]
 show (rvGo 5 0 0 (ds ++ x :: r)).map _ = _
 rw [hg, hv]
 simp
theorem z8O {t : Bs} {p q : Nat} {l : Bs} (h : z0o t p = some (l, q)) : t.drop p = z0e l ++ t.drop q ∧ q = p + (z0e l).length := by
 unfold z0o at h
 rcases hr : z0G t p with _ | ⟨n, c⟩
 ·rw [hr] at h; cases h
 ·have hb := z1a hr
  obtain ⟨e1, e2⟩ := z6y hr
  rw [hr] at h
  simp only at h
  split at h
  ·rename_i hc
   injection h with h; injection h with h1 h2; subst h1; subst h2
   have hl : ((t.drop c).take n).length = n := by simp; omega
   refine ⟨?_, by rw [z0e, List.length_append, hl]; omega⟩
   rw [z0e, hl, e1, List.append_assoc, ← List.drop_drop, List.take_append_drop]
  ·cases h
theorem z8P {t : Bs} {p : Nat} {l r : Bs} (hl : l.length ≤ 20000) (h : t.drop p = z0e l ++ r) : z0o t p = some (l, p + (z0e l).length) := by
 have hr : z0G t p = some (l.length, p + (z0g l.length).length) := z6z (r := l ++ r) (by omega) (by rw [h, z0e, List.append_assoc])
 have hd : t.drop (p + (z0g l.length).length) = l ++ r := by rw [← List.drop_drop, h, z0e, List.append_assoc, List.drop_left]
 have hlen := congrArg List.length hd
 simp at hlen
 rw [z0o, hr]
 simp only
 rw [if_pos ⟨hl, by omega⟩, hd, List.take_left, z0e, List.length_append]
 simp; omega
def numS (t : Bs) (p : Nat) (bad : Bool) : Nat × Nat × Bool := if bad = true then (0, p, true) else z2p t p false
def z1x (t : Bs) (p : Nat) (bad : Bool) : Bs × Nat × Bool := if bad = true then ([], p, true) else z0E t p false
theorem zbh (t : Bs) (p : Nat) : (z0E t p true).2.2 = true := by unfold z0E; split <;> rfl
theorem zdf (t : Bs) (p : Nat) : (z1x t p true).2.2 = true := rfl
theorem z9R (t : Bs) (p : Nat) : numS t p false = z2p t p false := rfl
theorem z6A (t : Bs) (p : Nat) : z1x t p false = z0E t p false := rfl
theorem z4K {t : Bs} {p n q : Nat} {b : Bool} (h : z2p t p b = (n, q, false)) : b = false ∧ n ≤ 1000000000 ∧ t.drop p = z0g n ++ t.drop q ∧ q = p + (z0g n).length := by
 unfold z2p at h
 rcases hr : z0G t p with _ | ⟨m, c⟩
 ·rw [hr] at h; simp at h
 ·rw [hr] at h
  simp at h
  obtain ⟨rfl, rfl, rfl⟩ := h
  exact ⟨rfl, (z1a hr).2.2.2, z6y hr⟩
theorem z2l {t : Bs} {p q : Nat} {l : Bs} {b : Bool} (h : z0E t p b = (l, q, false)) : b = false ∧ l.length ≤ 20000 ∧ t.drop p = z0e l ++ t.drop q ∧ q = p + (z0e l).length := by
 unfold z0E at h
 rcases hr : z0o t p with _ | ⟨m, c⟩
 ·rw [hr] at h; simp at h
 ·rw [hr] at h
  simp at h
  obtain ⟨rfl, rfl, rfl⟩ := h
  exact ⟨rfl, (z3u hr).2.2, z8O hr⟩
theorem z2s {t : Bs} {p n : Nat} {r : Bs} (hn : n ≤ 1000000000) (h : t.drop p = z0g n ++ r) (b : Bool) : z2p t p b = (n, p + (z0g n).length, b) := by
 rw [z2p, z6z hn h]
theorem z1n {t : Bs} {p : Nat} {l r : Bs} (hl : l.length ≤ 20000) (h : t.drop p = z0e l ++ r) (b : Bool) : z0E t p b = (l, p + (z0e l).length, b) := by
 rw [z0E, z8P hl h]
theorem z4l {t : Bs} {p : Nat} {bad : Bool} (hp : p ≤ t.length) : (numS t p bad).2.1 ≤ t.length ∧ (numS t p bad).1 ≤ 1000000000 := by
 unfold numS; split
 ·exact ⟨hp, by simp⟩
 ·exact z2W hp
theorem z2t {t : Bs} {p : Nat} {bad : Bool} (hp : p ≤ t.length) : (z1x t p bad).2.1 ≤ t.length ∧ (z1x t p bad).1.length ≤ 20000 := by
 unfold z1x; split
 ·exact ⟨hp, by simp⟩
 ·exact z1A hp
end Go.Proofs.YtgmbkbggnlponaaGreatDoor.Pl
namespace Go.Proofs.YtgmbkbggnlponaaGreatDoor.Pl
set_option linter.unusedVariables false
set_option linter.unusedSimpArgs false
set_option linter.unusedSectionVars false
def inB (n lo hi : Int) : Bool := decide (lo ≤ n) && decide (n ≤ hi)
theorem z0r {n lo hi : Int} : inB n lo hi = true ↔ lo ≤ n ∧ n ≤ hi := by simp [inB]
theorem zeJ (t : Bs) (p : Nat) : z1j t p true = (0, p, true) := by unfold z1j z0p; simp
theorem z4L {t : Bs} {p : Nat} {b : Bool} (hp : p ≤ t.length) : (z1j t p b).2.1 ≤ t.length ∧ (z1j t p b).1 ≤ 255 := by
 unfold z1j z0p
 split
 ·rename_i h
  split at h
  ·injection h with h1 h2; injection h2 with h2 h3; subst h2; simp [hp]
  ·rename_i hc
   injection h with h1 h2; injection h2 with h2 h3; subst h2
   simp; omega
 ·rename_i x l q b' h
  split at h
  ·injection h with h1 h2; cases h1
  ·rename_i hc
   injection h with h1 h2; injection h2 with h2 h3; subst h2
   have := x.toNat_lt
   simp; omega
theorem z4M {t : Bs} {p q n : Nat} {b : Bool} (h : z1j t p b = (n, q, false)) : b = false ∧ q = p + 1 ∧ ∃ x : UInt8, x.toNat = n ∧ t.drop p = x :: t.drop q := by
 unfold z1j z0p at h
 split at h
 ·rename_i h2
  split at h2
  ·injection h2 with h3 h4; injection h4 with h4 h5; subst h5; simp at h
  ·rename_i hc
   injection h2 with h3 h4
   exfalso
   have hl := congrArg List.length h3
   simp at hl hc
   omega
 ·rename_i x l q' b' h2
  split at h2
  ·injection h2 with h3 h4; cases h3
  ·rename_i hc
   injection h2 with h3 h4; injection h4 with h4 h5
   simp at h
   obtain ⟨rfl, rfl, rfl⟩ := h
   subst h4
   refine ⟨h5, rfl, x, rfl, ?_⟩
   rcases hd : t.drop p with _ | ⟨y, r⟩
   ·rw [hd] at h3; simp at h3
   ·rw [hd] at h3
    simp at h3
    rw [h3.1, ← List.drop_drop, hd]; rfl
abbrev Lt := Nat × Nat × Nat × Nat × Nat × Bs
end Go.Proofs.YtgmbkbggnlponaaGreatDoor.Pl
namespace Go.Proofs.YtgmbkbggnlponaaGreatDoor.Pl
set_option linter.unusedVariables false
set_option linter.unusedSimpArgs false
set_option linter.unusedSectionVars false
abbrev Lf := Bs × Bs
def ltB (a b : Bs) : Bool := Op.bytesLess a b
def lfAt (l : List Lf) (i : Nat) : Lf := l.getD i ([], [])
def z2g (l : List Lf) (i : Nat) : Bool := z1d (lfAt l i).1 && z1H (lfAt l i).2 && (i == 0 || ltB (lfAt l (i - 1)).1 (lfAt l i).1)
def leavesOk (l : List Lf) : Bool := decide (l.length ≤ 24) && (List.range l.length).all (z2g l)
theorem z5A {l : List Lf} {k : Nat} (hk : k < l.length) (h : z2g l k = false) : leavesOk l = false := by
 have : (List.range l.length).all (z2g l) = false := by
  rw [List.all_eq_false]
  exact ⟨k, List.mem_range.2 hk, by simp [h]⟩
 rw [leavesOk, this, Bool.and_false]
theorem z4N {l : List Lf} (h : 24 < l.length) : leavesOk l = false := by
 have : decide (l.length ≤ 24) = false := by simp; omega
 rw [leavesOk, this, Bool.false_and]
theorem z3n {l : List Lf} (hl : l.length ≤ 24) (h : ∀ k, k < l.length → z2g l k = true) : leavesOk l = true := by
 have h1 : decide (l.length ≤ 24) = true := by simpa using hl
 have h2 : (List.range l.length).all (z2g l) = true := List.all_eq_true.2 fun k hk => h k (List.mem_range.1 hk)
 rw [leavesOk, h1, h2]; rfl
theorem z5B {l : List Lf} : leavesOk l = true ↔ l.length ≤ 24 ∧ ∀ k, k < l.length → z2g l k = true := by
 constructor
 ·intro h
  rw [leavesOk, Bool.and_eq_true, decide_eq_true_iff, List.all_eq_true] at h
  exact ⟨h.1, fun k hk => h.2 k (List.mem_range.2 hk)⟩
 ·rintro ⟨h1, h2⟩; exact z3n h1 h2
def z1T (x : Lf) : Bs := z0e x.1 ++ z0e x.2
def z0z (l : List Lf) : Bs := z0g l.length ++ l.flatMap z1T
abbrev Sh := Nat → Bool → Bs × Nat × Bool
def z0V (sh : Sh) : Nat → Nat → Bool → List Lf × Nat × Bool
 | 0, p, b => ([], p, b)
 | _ + 1, p, true => ([], p, true)
 | n + 1, p, false => (((sh p false).1, (sh (sh p false).2.1 (sh p false).2.2).1) :: (z0V sh n (sh (sh p false).2.1 (sh p false).2.2).2.1 (sh (sh p false).2.1 (sh p false).2.2).2.2).1,
     (z0V sh n (sh (sh p false).2.1 (sh p false).2.2).2.1 (sh (sh p false).2.1 (sh p false).2.2).2.2).2)
def LvAt (sh : Sh) (R : List Lf × Nat × Bool) (n : Nat) (l : List Lf) (q : Nat) (b : Bool) : Prop := R = (l ++ (z0V sh n q b).1, (z0V sh n q b).2)
theorem LvAt.start (sh : Sh) (n q : Nat) (b : Bool) : LvAt sh (z0V sh n q b) n [] q b := rfl
theorem LvAt.step {sh : Sh} {R : List Lf × Nat × Bool} {n q q1 q2 : Nat} {l : List Lf} {a v : Bs} {b1 b2 : Bool} (h : LvAt sh R (n + 1) l q false) (h1 : sh q false = (a, q1, b1)) (h2 : sh q1 b1 = (v, q2, b2)) : LvAt sh R n (l ++ [(a, v)]) q2 b2 := by
 unfold LvAt at h ⊢
 rw [h, z0V, h1]
 simp only [h2]
 simp
theorem LvAt.done {sh : Sh} {R : List Lf × Nat × Bool} {q : Nat} {l : List Lf} {b : Bool} (h : LvAt sh R 0 l q b) : R = (l, q, b) := by
 unfold LvAt at h; rw [h, z0V]; simp
theorem LvAt.bad {sh : Sh} {R : List Lf × Nat × Bool} {n q : Nat} {l : List Lf} (h : LvAt sh R n l q true) : R = (l, q, true) := by
 unfold LvAt at h; rw [h]
 cases n <;> simp [z0V]
def z2a (t : Bs) (p : Nat) (bad : Bool) : List Lf × Nat × Bool :=
 let r := z0V (z0E t) (z2p t p bad).1 (z2p t p bad).2.1 (if 24 < (z2p t p bad).1 then true else (z2p t p bad).2.2)
 (r.1, r.2.1, r.2.2 || !leavesOk r.1)
def z2m (t : Bs) (p : Nat) (bad : Bool) : List Lf × Nat × Bool :=
 z0V (z1x t) (min (numS t p bad).1 30) (numS t p bad).2.1 (numS t p bad).2.2
end Go.Proofs.YtgmbkbggnlponaaGreatDoor.Pl
namespace Go.Proofs.YtgmbkbggnlponaaGreatDoor.Pl
set_option linter.unusedVariables false
set_option linter.unusedSimpArgs false
set_option linter.unusedSectionVars false
theorem z40 (sh : Sh) (n q : Nat) : z0V sh n q true = ([], q, true) := by cases n <;> rfl
theorem z4m {sh : Sh} {n q q1 q2 : Nat} {a v : Bs} {b1 b2 : Bool} (h1 : sh q false = (a, q1, b1)) (h2 : sh q1 b1 = (v, q2, b2)) :
 z0V sh (n + 1) q false = ((a, v) :: (z0V sh n q2 b2).1, (z0V sh n q2 b2).2) := by
 rw [z0V, h1]; simp only [h2]
theorem z5C (t : Bs) : ∀ (n q : Nat) (b : Bool), ((z0V (z0E t) n q b).2.2 = true ∧ (z0V (z1x t) n q b).2.2 = true) ∨ z0V (z0E t) n q b = z0V (z1x t) n q b
 | 0, q, b => .inr rfl
 | n + 1, q, true => .inr rfl
 | n + 1, q, false => by
   rcases h1 : z0E t q false with ⟨a, q1, b1⟩
   have h1' : z1x t q false = (a, q1, b1) := by rw [z6A]; exact h1
   rcases h2 : z0E t q1 b1 with ⟨v, q2, b2⟩
   rcases h2' : z1x t q1 b1 with ⟨v', q2', b2'⟩
   rw [z4m h1 h2, z4m h1' h2']
   cases b1
   ·rw [z6A, h2] at h2'
    cases h2'
    rcases z5C t n q2 b2 with h | h
    ·exact .inl h
    ·right; rw [h]
   ·have e1 := zbh t q1
    have e2 := zdf t q1
    rw [h2] at e1
    rw [h2'] at e2
    simp only at e1 e2
    subst e1; subst e2
    simp [z40]
theorem z7S {t : Bs} : ∀ {n q q2 : Nat} {l : List Lf}, z0V (z0E t) n q false = (l, q2, false) → q ≤ t.length →
 l.length = n ∧ q2 ≤ t.length ∧ t.drop q = l.flatMap z1T ++ t.drop q2
 | 0, q, q2, l, h, hq => by
   simp only [z0V] at h
   cases h
   exact ⟨rfl, hq, by simp⟩
 | n + 1, q, q2, l, h, hq => by
   rcases h1 : z0E t q false with ⟨a, q1, b1⟩
   rcases h2 : z0E t q1 b1 with ⟨v, q3, b2⟩
   rw [z4m h1 h2] at h
   cases b2
   ·obtain ⟨hb, _, d2, _⟩ := z2l h2
    subst hb
    obtain ⟨_, _, d1, _⟩ := z2l h1
    have l1 := (z1A (bad := false) hq).1
    rw [h1] at l1
    have l2 := (z1A (bad := false) (p := q1) l1).1
    rw [h2] at l2
    rcases hr : z0V (z0E t) n q3 false with ⟨l', q4, b4⟩
    rw [hr] at h
    simp only at h
    cases h
    obtain ⟨e1, e2, e3⟩ := z7S hr l2
    refine ⟨by simp [e1], e2, ?_⟩
    rw [List.flatMap_cons, z1T, d1, d2, e3]
    simp
   ·rw [z40] at h
    simp at h
theorem z6B {sh : Sh} {t : Bs} (hs : ∀ p b, p ≤ t.length → (sh p b).2.1 ≤ t.length) : ∀ (n q : Nat) (b : Bool), q ≤ t.length → (z0V sh n q b).2.1 ≤ t.length
 | 0, q, b, h => h
 | n + 1, q, true, h => h
 | n + 1, q, false, h => z6B hs n _ _ (hs _ _ (hs _ _ h))
theorem z7T {t : Bs} {p : Nat} {b : Bool} (h : p ≤ t.length) : (z2a t p b).2.1 ≤ t.length := by
 simp only [z2a]
 exact z6B (fun p b hp => (z1A hp).1) _ _ _ (z2W h).1
theorem zdg {t : Bs} {p : Nat} {b : Bool} (h : p ≤ t.length) : (z2m t p b).2.1 ≤ t.length := by
 simp only [z2m]
 exact z6B (fun p b hp => (z2t hp).1) _ _ _ (z4l h).1
end Go.Proofs.YtgmbkbggnlponaaGreatDoor.Pl
namespace Go.Proofs.YtgmbkbggnlponaaGreatDoor.Pl
set_option linter.unusedVariables false
set_option linter.unusedSimpArgs false
set_option linter.unusedSectionVars false
def z0I (l : List Lf) (n : Bs) : Option Bs := (l.find? fun x => x.1 == n).map (·.2)
def z2z (l : List Lf) (n : Bs) : List Lf := l.filter fun x => x.1 != n
theorem z6C {l : List Lf} {k : Nat} (h : k < l.length) : lfAt l k = l[k] := by simp [lfAt, List.getD, List.getElem?_eq_getElem h]
theorem z2b (l : List Lf) (k : Nat) (h : k < l.length) : l.take (k + 1) = l.take k ++ [lfAt l k] := by
 rw [List.take_add_one, List.getElem?_eq_getElem h, z6C h]; rfl
theorem zcm {l : List Lf} {k : Nat} {n : Bs} (h : k < l.length) (hx : z0I (l.take k) n = none) (hne : (lfAt l k).1 ≠ n) : z0I (l.take (k + 1)) n = none := by
 rw [z2b l k h]
 simp only [z0I, Option.map_eq_none_iff] at hx ⊢
 rw [List.find?_append, hx]
 simp [hne]
theorem zcn {l : List Lf} {k : Nat} {n : Bs} (h : k < l.length) (hx : z0I (l.take k) n = none) (he : (lfAt l k).1 = n) : z0I l n = some (lfAt l k).2 := by
 have e : z0I l n = z0I (l.take (k + 1) ++ l.drop (k + 1)) n := by rw [List.take_append_drop]
 rw [e, z2b l k h]
 simp only [z0I, Option.map_eq_none_iff] at hx ⊢
 rw [List.find?_append, List.find?_append, hx]
 simp [he]
theorem z2S {f : Lf → Bool} {l : List Lf} {k : Nat} (h : k < l.length) : (l.take (k + 1)).filter f = (l.take k).filter f ++ (if f (lfAt l k) = true then [lfAt l k] else []) := by
 rw [z2b l k h, List.filter_append]
 congr 1
 cases hf : f (lfAt l k) <;> simp [hf]
theorem z5D {l : List Lf} {k : Nat} {n : Bs} (h : k < l.length) : z2z (l.take (k + 1)) n = z2z (l.take k) n ++ (if (lfAt l k).1 = n then [] else [lfAt l k]) := by
 unfold z2z
 rw [z2S h]
 by_cases he : (lfAt l k).1 = n <;> simp [he]
def lowL (l : List Lf) (n : Bs) : List Lf := l.filter fun x => ltB x.1 n
def z5L (l : List Lf) (n : Bs) : List Lf := l.filter fun x => !(ltB x.1 n || decide (x.1 = n))
def putL (l : List Lf) (n v : Bs) : List Lf := lowL (z2z l n) n ++ [(n, v)] ++ z5L (z2z l n) n
def putR (l : List Lf) (n v : Bs) : List Lf × Bool := bif leavesOk l && leavesOk (putL l n v) then (putL l n v, true) else (l, false)
theorem zeK {l : List Lf} {k : Nat} {n : Bs} (h : k < l.length) : lowL (l.take (k + 1)) n = lowL (l.take k) n ++ (if ltB (lfAt l k).1 n = true then [lfAt l k] else []) := z2S h
theorem zdh {l : List Lf} {k : Nat} {n : Bs} (h : k < l.length) : z5L (l.take (k + 1)) n = z5L (l.take k) n ++ (if (!(ltB (lfAt l k).1 n || decide ((lfAt l k).1 = n))) = true then [lfAt l k] else []) := z2S h
end Go.Proofs.YtgmbkbggnlponaaGreatDoor.Pl
namespace Go.Proofs.YtgmbkbggnlponaaGreatDoor.Pl
set_option linter.unusedVariables false
set_option linter.unusedSimpArgs false
set_option linter.unusedSectionVars false
theorem zh4 (a : Bs) : ltB a [] = false := by cases a <;> rfl
theorem zeL (a b : UInt8) (x y : Bs) : ltB (a :: x) (b :: y) = (decide (a < b) || (a == b && ltB x y)) := rfl
theorem lt_irrefl : ∀ a : Bs, ltB a a = false
 | [] => rfl
 | a :: x => by rw [zeL, lt_irrefl x]; simp
theorem lt_trans : ∀ {a b c : Bs}, ltB a b = true → ltB b c = true → ltB a c = true
 | _, [], _, h, _ => by rw [zh4] at h; cases h
 | _, _, [], _, h => by rw [zh4] at h; cases h
 | [], _ :: _, _ :: _, _, _ => rfl
 | a :: x, b :: y, c :: z, h, k => by
   rw [zeL] at h k ⊢
   simp only [Bool.or_eq_true, decide_eq_true_eq, Bool.and_eq_true, beq_iff_eq] at h k ⊢
   rcases h with h | ⟨rfl, h⟩
   ·rcases k with k | ⟨rfl, k⟩
    ·exact .inl (UInt8.lt_trans h k)
    ·exact .inl h
   ·rcases k with k | ⟨rfl, k⟩
    ·exact .inl k
    ·exact .inr ⟨rfl, lt_trans h k⟩
def Sorted (l : List Lf) : Prop := l.Pairwise fun a b => ltB a.1 b.1 = true
theorem z0K {l : List Lf} (h : leavesOk l = true) : l.length ≤ 24 ∧ (∀ x ∈ l, z1d x.1 = true ∧ z1H x.2 = true) ∧ Sorted l := by
 obtain ⟨h1, h2⟩ := z5B.1 h
 have st : ∀ k (hk : k < l.length), z1d l[k].1 = true ∧ z1H l[k].2 = true ∧ (k = 0 ∨ ltB (lfAt l (k - 1)).1 l[k].1 = true) := fun k hk => by
  have := h2 k hk
  rw [z2g, z6C hk] at this
  simpa [and_assoc] using this
 refine ⟨h1, fun x hx => ?_, ?_⟩
 ·obtain ⟨k, hk, rfl⟩ := List.getElem_of_mem hx
  exact ⟨(st k hk).1, (st k hk).2.1⟩
 ·rw [Sorted, List.pairwise_iff_getElem]
  intro i j hi hj hij
  have key : ∀ d, (h : i + d + 1 < l.length) → ltB l[i].1 l[i + d + 1].1 = true := by
   intro d
   induction d with
   | zero =>
     intro h
     have := ((st (i + 1) h).2.2).resolve_left (by omega)
     rwa [Nat.add_sub_cancel, z6C hi] at this
   | succ d ih =>
     intro h
     have a := ih (by omega)
     have b := ((st (i + (d + 1) + 1) h).2.2).resolve_left (by omega)
     rw [Nat.add_sub_cancel, z6C (show i + (d + 1) < l.length by omega)] at b
     exact lt_trans a b
  have := key (j - i - 1) (by omega)
  simpa [show i + (j - i - 1) + 1 = j by omega] using this
theorem z9S {l : List Lf} (h1 : l.length ≤ 24) (h2 : ∀ x ∈ l, z1d x.1 = true ∧ z1H x.2 = true) (h3 : Sorted l) : leavesOk l = true := by
 refine z5B.2 ⟨h1, fun k hk => ?_⟩
 rw [z2g, z6C hk, (h2 _ (List.getElem_mem hk)).1, (h2 _ (List.getElem_mem hk)).2]
 cases k with
 | zero => rfl
 | succ k =>
   rw [Nat.add_sub_cancel, z6C (show k < l.length by omega)]
   have := (List.pairwise_iff_getElem.1 h3) k (k + 1) (by omega) hk (by omega)
   rw [this]; rfl
theorem Sorted.filter {l : List Lf} (h : Sorted l) (f : Lf → Bool) : Sorted (l.filter f) := List.Pairwise.filter _ h
theorem z5j {t : Bs} : ∀ {l : List Lf} {p : Nat} {r : Bs}, (∀ x ∈ l, x.1.length ≤ 20000 ∧ x.2.length ≤ 20000) → t.drop p = l.flatMap z1T ++ r → z0V (z0E t) l.length p false = (l, p + (l.flatMap z1T).length, false)
 | [], p, r, _, _ => by simp [z0V]
 | x :: l, p, r, hs, h => by
   have h0 : t.drop p = z0e x.1 ++ (z0e x.2 ++ (l.flatMap z1T ++ r)) := by rw [h]; simp [z1T]
   have hx := hs x (by simp)
   have e1 := z1n hx.1 h0 false
   have hd1 : t.drop (p + (z0e x.1).length) = z0e x.2 ++ (l.flatMap z1T ++ r) := by
    rw [← List.drop_drop, h0, List.drop_left]
   have e2 := z1n hx.2 hd1 false
   have hd2 : t.drop (p + (z0e x.1).length + (z0e x.2).length) = l.flatMap z1T ++ r := by
    rw [← List.drop_drop, hd1, List.drop_left]
   have ih := z5j (fun y hy => hs y (by simp [hy])) hd2
   rw [List.length_cons, z0V, e1]
   simp only [e2, ih]
   simp [z1T]
   omega
theorem z1B {s : Bs} (h : z1d s = true) : s.length ≤ 12 := by
 simp [z1d, allN] at h; exact h.1.2
theorem z1J {s : Bs} (h : z1H s = true) : s.length ≤ 12 := by
 simp [z1H, allN] at h; exact h.1.2
end Go.Proofs.YtgmbkbggnlponaaGreatDoor.Pl
namespace Go.Proofs.YtgmbkbggnlponaaGreatDoor.Pl
set_option linter.unusedVariables false
set_option linter.unusedSimpArgs false
set_option linter.unusedSectionVars false
theorem zbi {t : Bs} {p q : Nat} {b : Bool} {l : List Lf} (h : z2a t p b = (l, q, false)) (hp : p ≤ t.length) : b = false ∧ leavesOk l = true ∧ q ≤ t.length ∧ t.drop p = z0z l ++ t.drop q := by
 unfold z2a at h
 rcases hN : z2p t p b with ⟨n, p1, b1⟩
 have hle := (z2W (t := t) (p := p) (bad := b) hp).1
 rw [hN] at h hle
 simp only at h hle
 rcases hL : z0V (z0E t) n p1 (if 24 < n then true else b1) with ⟨l', q', b'⟩
 rw [hL] at h
 simp only [Prod.mk.injEq, Bool.or_eq_false_iff] at h
 obtain ⟨rfl, rfl, rfl, ho⟩ := h
 have ho : leavesOk l' = true := by simpa using ho
 by_cases h24 : 24 < n
 ·rw [if_pos h24, z40] at hL; cases hL
 ·rw [if_neg h24] at hL
  cases b1 with
  | true => rw [z40] at hL; cases hL
  | false =>
    obtain ⟨rfl, _, e1, _⟩ := z4K hN
    obtain ⟨e2, e3, e4⟩ := z7S hL hle
    exact ⟨rfl, ho, e3, by rw [e1, e4, z0z, e2, List.append_assoc]⟩
theorem zbj {t : Bs} {p : Nat} {l : List Lf} {r : Bs} (ho : leavesOk l = true) (h : t.drop p = z0z l ++ r) : z2a t p false = (l, p + (z0z l).length, false) := by
 obtain ⟨h1, h2, _⟩ := z0K ho
 have h0 : t.drop p = z0g l.length ++ (l.flatMap z1T ++ r) := by rw [h, z0z, List.append_assoc]
 have hN := z2s (by omega) h0 false
 have hd : t.drop (p + (z0g l.length).length) = l.flatMap z1T ++ r := by rw [← List.drop_drop, h0, List.drop_left]
 have hL := z5j (fun x hx => by have := z1B (h2 x hx).1; have := z1J (h2 x hx).2; omega) hd
 have hno : ¬ 24 < l.length := by omega
 simp only [z2a, hN, if_neg hno, hL, ho]
 simp [z0z, Nat.add_assoc]
theorem zbk {t : Bs} {p : Nat} {l : List Lf} {r : Bs} (ho : leavesOk l = true) (h : t.drop p = z0z l ++ r) : z2m t p false = (l, p + (z0z l).length, false) := by
 obtain ⟨h1, h2, _⟩ := z0K ho
 have h0 : t.drop p = z0g l.length ++ (l.flatMap z1T ++ r) := by rw [h, z0z, List.append_assoc]
 have hN := z2s (by omega) h0 false
 have hd : t.drop (p + (z0g l.length).length) = l.flatMap z1T ++ r := by rw [← List.drop_drop, h0, List.drop_left]
 have hL := z5j (fun x hx => by have := z1B (h2 x hx).1; have := z1J (h2 x hx).2; omega) hd
 have hmin : min l.length 30 = l.length := by omega
 simp only [z2m, z9R, hN, hmin]
 rcases z5C t l.length (p + (z0g l.length).length) false with hb | he
 ·rw [hL] at hb; cases hb.1
 ·rw [← he, hL]; simp [z0z, Nat.add_assoc]
def z20 (t : Bs) (w : Nat) : Nat → Nat → Bool → List Bs × Nat × Bool
 | 0, p, b => ([], p, b)
 | n + 1, p, b => ((z0p t p b w).1 :: (z20 t w n (z0p t p b w).2.1 (z0p t p b w).2.2).1, (z20 t w n (z0p t p b w).2.1 (z0p t p b w).2.2).2)
def z36 (t : Bs) (w : Int) : Nat → Nat → Bool → List Bs × Nat × Bool
 | 0, p, b => ([], p, b)
 | _ + 1, p, true => ([], p, true)
 | n + 1, p, false => ((z0M t p false w).1 :: (z36 t w n (z0M t p false w).2.1 (z0M t p false w).2.2).1, (z36 t w n (z0M t p false w).2.1 (z0M t p false w).2.2).2)
theorem z6D (t : Bs) (p w : Nat) : z0p t p true w = ([], p, true) := by simp [z0p]
theorem z9T (t : Bs) (w : Nat) : ∀ (n p : Nat), (z20 t w n p true).2.2 = true
 | 0, p => rfl
 | n + 1, p => by simp only [z20, z6D]; exact z9T t w n p
theorem z37 {t : Bs} {w : Nat} : ∀ {n p q : Nat} {b : Bool} {s : List Bs}, z20 t w n p b = (s, q, false) → p ≤ t.length → b = false ∧ s.length = n ∧ (∀ x ∈ s, x.length = w) ∧ q ≤ t.length ∧ t.drop p = s.flatten ++ t.drop q
 | 0, p, q, b, s, h, hp => by
   simp only [z20, Prod.mk.injEq] at h
   obtain ⟨rfl, rfl, rfl⟩ := h
   exact ⟨rfl, rfl, fun x hx => absurd hx (List.not_mem_nil), hp, by simp⟩
 | n + 1, p, q, b, s, h, hp => by
   by_cases hc : b = true ∨ t.length - p < w
   ·have e : z0p t p b w = ([], p, true) := by rw [z0p, if_pos hc]
    simp only [z20, e] at h
    have := z9T t w n p
    have h2 := congrArg (fun x => x.2.2) h
    simp only at h2
    rw [this] at h2; cases h2
   ·have e : z0p t p b w = ((t.drop p).take w, p + w, b) := by rw [z0p, if_neg hc]
    have hb : b = false := by cases b <;> simp at hc ⊢
    have hw : ¬ t.length - p < w := fun h => hc (.inr h)
    simp only [z20, e] at h
    rcases hR : z20 t w n (p + w) b with ⟨s', q', b'⟩
    rw [hR] at h
    simp only [Prod.mk.injEq] at h
    obtain ⟨rfl, rfl, rfl⟩ := h
    obtain ⟨_, i2, i3, i4, i5⟩ := z37 hR (by omega)
    refine ⟨hb, by simp [i2], fun x hx => ?_, i4, ?_⟩
    ·rcases List.mem_cons.1 hx with rfl | hx
     ·simp; omega
     ·exact i3 x hx
    ·rw [List.flatten_cons, List.append_assoc, ← i5, ← List.drop_drop, List.take_append_drop]
theorem z2c {t : Bs} {w : Nat} : ∀ {s : List Bs} {p : Nat} {r : Bs}, (∀ x ∈ s, x.length = w) → t.drop p = s.flatten ++ r → z20 t w s.length p false = (s, p + s.flatten.length, false)
 | [], p, r, _, _ => by simp [z20]
 | x :: s, p, r, hs, h => by
   have hx := hs x (by simp)
   have hl := congrArg List.length h
   simp at hl
   have e : z0p t p false w = (x, p + w, false) := by
    rw [z0p, if_neg (by simp; omega), h, List.flatten_cons, List.append_assoc, ← hx, List.take_left]
   have hd : t.drop (p + w) = s.flatten ++ r := by rw [← List.drop_drop, h, List.flatten_cons, List.append_assoc, ← hx, List.drop_left]
   have ih := z2c (fun y hy => hs y (by simp [hy])) hd
   rw [List.length_cons, z20, e]
   simp only [ih]
   simp [hx]; omega
theorem z9U {t : Bs} {w : Nat} : ∀ {s : List Bs} {p : Nat} {r : Bs}, (∀ x ∈ s, x.length = w) → t.drop p = s.flatten ++ r → z36 t (w : Int) s.length p false = (s, p + s.flatten.length, false)
 | [], p, r, _, _ => by simp [z36]
 | x :: s, p, r, hs, h => by
   have hx := hs x (by simp)
   have hl := congrArg List.length h
   simp at hl
   have e : z0M t p false (w : Int) = (x, p + w, false) := by
    rw [z0M, if_neg (by omega), Int.toNat_natCast, z0p, if_neg (by simp; omega), h, List.flatten_cons, List.append_assoc, ← hx, List.take_left]
   have hd : t.drop (p + w) = s.flatten ++ r := by rw [← List.drop_drop, h, List.flatten_cons, List.append_assoc, ← hx, List.drop_left]
   have ih := z9U (fun y hy => hs y (by simp [hy])) hd
   rw [List.length_cons, z36, e]
   simp only [ih]
   simp [hx]; omega
def z0l (l : List Lf) (s : List Bs) : Bs := z0z l ++ (z0g s.length ++ s.flatten)
def wideB (s : List Bs) (w : Int) : Bool := s.all (fun x => decide ((x.length : Int) = w)) && inB w 1 32
def z0J (l : List Lf) (s : List Bs) (w : Int) : Bool := leavesOk l && decide (s.length ≤ 8) && wideB s w
def z31 (t : Bs) (w : Nat) : Option (List Lf × List Bs) :=
 let A := z2a t 0 false
 let B := z2p t A.2.1 A.2.2
 if 8 < B.1 then none else
  let C := z20 t w B.1 B.2.1 B.2.2
  if z3i C.2.2 C.2.1 t.length = true then some (A.1, C.1) else none
def z1D (t : Bs) (w : Int) : Option (List Lf × List Bs) :=
 let A := z2m t 0 false
 let B := numS t A.2.1 A.2.2
 let C := z36 t w (min B.1 10) B.2.1 B.2.2
 if C.2.2 = false ∧ z0J A.1 C.1 w = true ∧ z0l A.1 C.1 = t then some (A.1, C.1) else none
theorem z1o {l : List Lf} {s : List Bs} {w : Int} : z0J l s w = true ↔ leavesOk l = true ∧ s.length ≤ 8 ∧ (∀ x ∈ s, (x.length : Int) = w) ∧ 1 ≤ w ∧ w ≤ 32 := by
 simp [z0J, wideB, inB, and_assoc]
theorem zeM {t : Bs} {w : Nat} (hw : 1 ≤ w ∧ w ≤ 32) {l : List Lf} {s : List Bs} : z31 t w = some (l, s) ↔ z0J l s w = true ∧ t = z0l l s := by
 rw [z1o]
 constructor
 ·intro h
  rcases hA : z2a t 0 false with ⟨l', p1, b1⟩
  have hp1 := z7T (t := t) (p := 0) (b := false) (by omega)
  rcases hB : z2p t p1 b1 with ⟨n, p2, b2⟩
  rcases hC : z20 t w n p2 b2 with ⟨s', p3, b3⟩
  rw [hA] at hp1
  simp only at hp1
  have hp2 := (z2W (t := t) (p := p1) (bad := b1) hp1).1
  rw [hB] at hp2
  simp only at hp2
  simp only [z31, hA, hB, hC] at h
  split at h
  ·cases h
  ·rename_i h8
   split at h
   ·rename_i hd
    injection h with h; injection h with e1 e2; subst e1; subst e2
    simp only [z3i, Bool.and_eq_true, Bool.not_eq_true', beq_iff_eq] at hd
    obtain ⟨rfl, rfl⟩ := hd
    obtain ⟨rfl, c2, c3, c4, c5⟩ := z37 hC hp2
    obtain ⟨rfl, _, d1, _⟩ := z4K hB
    obtain ⟨_, a2, a3, a4⟩ := zbi hA (by omega)
    refine ⟨⟨a2, by omega, fun x hx => by rw [c3 x hx], by omega, by omega⟩, ?_⟩
    rw [List.drop_zero] at a4
    rw [List.drop_length, List.append_nil] at c5
    rw [a4, d1, c5, c2.symm]; rfl
   ·cases h
 ·rintro ⟨⟨h1, h2, h3, h4, h5⟩, ht⟩
  have hA := zbj (t := t) (p := 0) h1 (r := z0g s.length ++ s.flatten) (by rw [List.drop_zero, ht]; rfl)
  have hd1 : t.drop (0 + (z0z l).length) = z0g s.length ++ s.flatten := by rw [ht, z0l, Nat.zero_add, List.drop_left]
  have hB := z2s (by omega) hd1 false
  have hd2 : t.drop (0 + (z0z l).length + (z0g s.length).length) = s.flatten ++ [] := by rw [← List.drop_drop, hd1, List.drop_left, List.append_nil]
  have hC := z2c (w := w) (fun x hx => by have := h3 x hx; omega) hd2
  have hl : t.length = (z0z l).length + (z0g s.length).length + s.flatten.length := by rw [ht, z0l]; simp [Nat.add_assoc]
  simp only [z31, hA, hB, hC, if_neg (show ¬ 8 < s.length by omega)]
  rw [if_pos]
  rw [hl]; simp [z3i]
theorem zeN {t : Bs} {w : Int} {l : List Lf} {s : List Bs} : z1D t w = some (l, s) ↔ z0J l s w = true ∧ t = z0l l s := by
 constructor
 ·intro h
  simp only [z1D] at h
  split at h
  ·rename_i hc
   injection h with h; injection h with e1 e2
   rw [e1, e2] at hc
   exact ⟨hc.2.1, hc.2.2.symm⟩
  ·cases h
 ·rintro ⟨ho, ht⟩
  obtain ⟨h1, h2, h3, h4, h5⟩ := z1o.1 ho
  obtain ⟨wn, rfl⟩ : ∃ n : Nat, w = n := ⟨w.toNat, by omega⟩
  have hA := zbk (t := t) (p := 0) h1 (r := z0g s.length ++ s.flatten) (by rw [List.drop_zero, ht]; rfl)
  have hd1 : t.drop (0 + (z0z l).length) = z0g s.length ++ s.flatten := by rw [ht, z0l, Nat.zero_add, List.drop_left]
  have hB := z2s (by omega) hd1 false
  have hd2 : t.drop (0 + (z0z l).length + (z0g s.length).length) = s.flatten ++ [] := by rw [← List.drop_drop, hd1, List.drop_left, List.append_nil]
  have hC := z9U (w := wn) (fun x hx => by have := h3 x hx; omega) hd2
  have hmin : min s.length 10 = s.length := by omega
  simp only [z1D, hA, z9R, hB, hmin, hC]
  rw [if_pos ⟨trivial, ho, ht.symm⟩]
end Go.Proofs.YtgmbkbggnlponaaGreatDoor.Pl
namespace Go.Proofs.YtgmbkbggnlponaaGreatDoor.Pl
set_option linter.unusedVariables false
set_option linter.unusedSimpArgs false
set_option linter.unusedSectionVars false
def shlN (x : UInt32) (n : Nat) : UInt32 := UInt32.ofNat (x.toNat * 2 ^ n)
def shrN (x : UInt32) (n : Nat) : UInt32 := UInt32.ofNat (x.toNat / 2 ^ n)
def o8 (b : UInt8) : UInt32 := UInt32.ofNat b.toNat
def z2A (x : UInt32) (n : Nat) : UInt32 := shrN x n ||| shlN x (32 - n)
def zgi (b : Bs) (i : Nat) : UInt32 := shlN (o8 (b.getD (4 * i) 0)) 24 ||| shlN (o8 (b.getD (4 * i + 1) 0)) 16 ||| shlN (o8 (b.getD (4 * i + 2) 0)) 8 ||| o8 (b.getD (4 * i + 3) 0)
def upd (f : Nat → UInt32) (i : Nat) (x : UInt32) : Nat → UInt32 := fun j => bif Nat.beq j i then x else f j
def z3v (b : Bs) (i : Nat) : Nat → UInt32 := (List.range i).foldl (fun ws k => upd ws k (zgi b k)) (fun _ => 0)
def z4O (ws : Nat → UInt32) (i : Nat) : Nat → UInt32 :=
 upd ws i (ws (i - 16) + (z2A (ws (i - 15)) 7 ^^^ z2A (ws (i - 15)) 18 ^^^ shrN (ws (i - 15)) 3) + ws (i - 7) + (z2A (ws (i - 2)) 17 ^^^ z2A (ws (i - 2)) 19 ^^^ shrN (ws (i - 2)) 10))
def z39 (ws : Nat → UInt32) (i : Nat) : Nat → UInt32 := (List.range (i - 16)).foldl (fun ws k => z4O ws (k + 16)) ws
structure W8 where
 a : UInt32
 b : UInt32
 c : UInt32
 d : UInt32
 e : UInt32
 f : UInt32
 g : UInt32
 h : UInt32
def W8.list (s : W8) : List UInt32 := [s.a, s.b, s.c, s.d, s.e, s.f, s.g, s.h]
def rnd (s : W8) (k w : UInt32) : W8 :=
 let one := s.h + (z2A s.e 6 ^^^ z2A s.e 11 ^^^ z2A s.e 25) + (s.e &&& s.f ^^^ (s.e ^^^ 4294967295) &&& s.g) + k + w
 let two := (z2A s.a 2 ^^^ z2A s.a 13 ^^^ z2A s.a 22) + (s.a &&& s.b ^^^ s.a &&& s.c ^^^ s.b &&& s.c)
 ⟨one + two, s.a, s.b, s.c, s.d + one, s.e, s.f, s.g⟩
def rnds (s : W8) (ks ws : Nat → UInt32) (i : Nat) : W8 := (List.range i).foldl (fun s j => rnd s (ks j) (ws j)) s
def addW (h s : Nat → UInt32) (i : Nat) : Nat → UInt32 := (List.range i).foldl (fun l j => upd l j (l j + s j)) h
def W8.fn (s : W8) : Nat → UInt32 := fun j => s.list.getD j 0
def add8 (h s : W8) : W8 := ⟨h.a + s.a, h.b + s.b, h.c + s.c, h.d + s.d, h.e + s.e, h.f + s.f, h.g + s.g, h.h + s.h⟩
def z7Z (h : W8) (b : Bs) (ks : Nat → UInt32) : W8 := add8 h (rnds h ks (z39 (z3v b 16) 64) 64)
theorem z6F (b : Bs) (i : Nat) : z3v b (i + 1) = upd (z3v b i) i (zgi b i) := by simp [z3v, List.range_succ]
theorem z6G {ws : Nat → UInt32} {i : Nat} (h : 16 ≤ i) : z39 ws (i + 1) = z4O (z39 ws i) i := by
 rw [z39, z39, show i + 1 - 16 = (i - 16) + 1 by omega, List.range_succ, List.foldl_append]
 simp [show i - 16 + 16 = i by omega]
theorem za1 (s : W8) (ks ws : Nat → UInt32) (i : Nat) : rnds s ks ws (i + 1) = rnd (rnds s ks ws i) (ks i) (ws i) := by simp [rnds, List.range_succ]
theorem z6H (h s : Nat → UInt32) (i : Nat) : addW h s (i + 1) = upd (addW h s i) i (addW h s i i + s i) := by simp [addW, List.range_succ]
theorem z8S (h s : Nat → UInt32) : ∀ (i j : Nat), addW h s i j = if j < i then h j + s j else h j
 | 0, j => rfl
 | i + 1, j => by
   rw [z6H, upd, z8S h s i, z8S h s i]
   by_cases hj : j = i
   ·subst hj; simp
   ·have : Nat.beq j i = false := by
     cases hb : Nat.beq j i with
     | false => rfl
     | true => exact absurd (Nat.eq_of_beq_eq_true hb) hj
    rw [this, cond_false]
    by_cases h1 : j < i
    ·rw [if_pos h1, if_pos (by omega)]
    ·rw [if_neg h1, if_neg (by omega)]
def z0W : Nat → Bs → Bs
 | 0, t => t
 | n + 1, t => if t.length % 64 = 56 then t else z0W n (t ++ [0])
def lenB (n : Nat) (i : Nat) : Bs := (List.range i).map fun j => UInt8.ofNat (n / 2 ^ (8 * (7 - j)))
def padB (t : Bs) : Bs := z0W 64 (t ++ [128]) ++ lenB (8 * t.length) 8
def z2B (h : W8) (p : Bs) (ks : Nat → UInt32) (i : Nat) : W8 := (List.range i).foldl (fun h j => z7Z h ((p.drop (64 * j)).take 64) ks) h
theorem z5E (h : W8) (p : Bs) (ks : Nat → UInt32) (i : Nat) : z2B h p ks (i + 1) = z7Z (z2B h p ks i) ((p.drop (64 * i)).take 64) ks := by simp [z2B, List.range_succ]
def out4 (out : Bs) (x : UInt32) (i : Nat) : Bs :=
 (((out.set (4 * i) (UInt8.ofNat (shrN x 24).toNat)).set (4 * i + 1) (UInt8.ofNat (shrN x 16).toNat)).set (4 * i + 2) (UInt8.ofNat (shrN x 8).toNat)).set (4 * i + 3) (UInt8.ofNat x.toNat)
def outB (h : Nat → UInt32) (i : Nat) : Bs := (List.range i).foldl (fun out j => out4 out (h j) j) (List.replicate 32 0)
theorem za2 (h : Nat → UInt32) (i : Nat) : outB h (i + 1) = out4 (outB h i) (h i) i := by simp [outB, List.range_succ]
theorem z8T (h : Nat → UInt32) : ∀ i, (outB h i).length = 32
 | 0 => rfl
 | i + 1 => by rw [za2]; simp only [out4, List.length_set]; exact z8T h i
def first8 : W8 := ⟨1779033703, 3144134277, 1013904242, 2773480762, 1359893119, 2600822924, 528734635, 1541459225⟩
def keys64 : List UInt32 := [1116352408, 1899447441, 3049323471, 3921009573, 961987163, 1508970993, 2453635748, 2870763221, 3624381080, 310598401, 607225278, 1426881987, 1925078388, 2162078206, 2614888103, 3248222580, 3835390401, 4022224774, 264347078, 604807628, 770255983, 1249150122, 1555081692, 1996064986, 2554220882, 2821834349, 2952996808, 3210313671, 3336571891, 3584528711, 113926993, 338241895, 666307205, 773529912, 1294757372, 1396182291, 1695183700, 1986661051, 2177026350, 2456956037, 2730485921, 2820302411, 3259730800, 3345764771, 3516065817, 3600352804, 4094571909, 275423344, 430227734, 506948616, 659060556, 883997877, 958139571, 1322822218, 1537002063, 1747873779, 1955562222, 2024104815, 2227730452, 2361852424, 2428436474, 2756734187, 3204031479, 3329325298]
def kF : Nat → UInt32 := fun j => keys64.getD j 0
def z2d (t : Bs) : Bs := outB (z2B first8 (padB t) kF ((padB t).length / 64)).fn 8
theorem z6I : ∀ (n : Nat) (t : Bs), (56 + 64 - t.length % 64) % 64 ≤ n → (z0W n t).length % 64 = 56 ∧ (z0W n t).length ≤ t.length + n
 | 0, t, h => by simp only [z0W]; omega
 | n + 1, t, h => by
   simp only [z0W]
   split
   ·omega
   ·have := z6I n (t ++ [0]) (by simp; omega)
    simp at this ⊢
    omega
theorem zcu (t : Bs) : (padB t).length % 64 = 0 ∧ (padB t).length ≤ t.length + 73 ∧ 64 ≤ (padB t).length := by
 have := z6I 64 (t ++ [128]) (by omega)
 simp only [padB, lenB, List.length_append, List.length_map, List.length_range, List.length_singleton] at this ⊢
 omega
theorem z21 (t : Bs) : (z2d t).length = 32 := z8T _ _
end Go.Proofs.YtgmbkbggnlponaaGreatDoor.Pl
namespace Go.Proofs.YtgmbkbggnlponaaGreatDoor.Pl
set_option linter.unusedVariables false
set_option linter.unusedSimpArgs false
set_option linter.unusedSectionVars false
theorem zcv : ∀ (n : Nat) (t : Bs), (56 + 64 - t.length % 64) % 64 ≤ n → z0W n t = t ++ List.replicate ((56 + 64 - t.length % 64) % 64) 0
 | 0, t, h => by
   have h0 : (56 + 64 - t.length % 64) % 64 = 0 := by omega
   simp [z0W, h0]
 | n + 1, t, h => by
   simp only [z0W]
   split
   ·have h0 : (56 + 64 - t.length % 64) % 64 = 0 := by omega
    simp [h0]
   ·have e : (56 + 64 - t.length % 64) % 64 = (56 + 64 - (t ++ [0]).length % 64) % 64 + 1 := by simp; omega
    rw [zcv n (t ++ [0]) (by omega), e, List.append_assoc, List.replicate_succ]
    rfl
def padI (t : Bs) : Bs := t ++ [128] ++ List.replicate ((119 - t.length % 64) % 64) 0 ++ lenB (8 * t.length) 8
theorem zhQ (t : Bs) : padI t = padB t := by
 have e : (56 + 64 - (t ++ [128]).length % 64) % 64 = (119 - t.length % 64) % 64 := by simp; omega
 rw [padI, padB, zcv 64 (t ++ [128]) (by omega), e]
def four (x : UInt32) : Bs := [UInt8.ofNat (shrN x 24).toNat, UInt8.ofNat (shrN x 16).toNat, UInt8.ofNat (shrN x 8).toNat, UInt8.ofNat x.toNat]
def outI (h : Nat → UInt32) (i : Nat) : Bs := (List.range i).flatMap fun j => four (h j)
theorem za3 (h : Nat → UInt32) (i : Nat) : outI h (i + 1) = outI h i ++ four (h i) := by simp [outI, List.range_succ]
theorem zcw (h : Nat → UInt32) : ∀ i, (outI h i).length = 4 * i
 | 0 => rfl
 | i + 1 => by rw [za3, List.length_append, zcw h i]; simp [four]; omega
theorem zhR (h : Nat → UInt32) : outI h 8 = outB h 8 := by kernel_rfl
theorem zf2 (x : UInt32) (n : Nat) : shlN x (32 - n) ||| shrN x n = z2A x n := UInt32.or_comm _ _
theorem xor_comm (a b : UInt32) : a ^^^ b = b ^^^ a := UInt32.xor_comm _ _
def ixB (s : Bs) : Nat := ((z2d s).getD 0 0).toNat
theorem z6J (s : Bs) : ixB s < 256 := UInt8.toNat_lt _
end Go.Proofs.YtgmbkbggnlponaaGreatDoor.Pl
namespace Go.Proofs.YtgmbkbggnlponaaGreatDoor.Pl
set_option linter.unusedVariables false
set_option linter.unusedSimpArgs false
set_option linter.unusedSectionVars false
def tagB (k : Nat) (ps : List Bs) : Bs := UInt8.ofNat k :: ps.flatMap z0e
def cutB (t : Bs) (w : Nat) : Bs := (z2d t).take w
def z14 (k : Nat) (ps : List Bs) (w : Nat) : Bs := cutB (tagB k ps) w
theorem z1M {t : Bs} {w : Nat} (h : w ≤ 32) : (cutB t w).length = w := by rw [cutB, List.length_take, z21]; omega
theorem z0X {k : Nat} {ps : List Bs} {w : Nat} (h : w ≤ 32) : (z14 k ps w).length = w := z1M h
def z2u (l : List Lf) : List Bs := l.flatMap fun x => [x.1, x.2]
def z0T (l : List Lf) : Bs := if l = [] then tagB 1 [] else tagB 2 (z2u l)
def emB (w : Nat) : Nat → Bs
 | 0 => z14 1 [] w
 | d + 1 => z14 3 [emB w d, emB w d] w
def atP (l : List Lf) (d p : Nat) : List Lf := l.filter fun x => decide (ixB x.1 / 2 ^ d = p)
def z0w (l : List Lf) (w : Nat) : Nat → Nat → Bs
 | 0, p => cutB (z0T (atP l 0 p)) w
 | d + 1, p => if atP l (d + 1) p = [] then emB w (d + 1) else z14 3 [z0w l w d (2 * p), z0w l w d (2 * p + 1)] w
theorem zf3 {w : Nat} (h : w ≤ 32) : ∀ d, (emB w d).length = w
 | 0 => z0X h
 | d + 1 => z0X h
theorem z4P {l : List Lf} {w : Nat} (h : w ≤ 32) : ∀ d p, (z0w l w d p).length = w
 | 0, p => z1M h
 | d + 1, p => by
   rw [z0w]
   split
   ·exact zf3 h _
   ·exact z0X h
theorem div_up {a d p : Nat} : a / 2 ^ (d + 1) = p ↔ a / 2 ^ d = 2 * p ∨ a / 2 ^ d = 2 * p + 1 := by
 rw [Nat.pow_succ, ← Nat.div_div_eq_div_mul]; omega
theorem z6K {l : List Lf} {d p q : Nat} (h : q = 2 * p ∨ q = 2 * p + 1) : atP (atP l (d + 1) p) d q = atP l d q := by
 unfold atP
 rw [List.filter_filter]
 apply List.filter_congr
 intro x _
 by_cases h1 : ixB x.1 / 2 ^ d = q
 ·have : ixB x.1 / 2 ^ (d + 1) = p := div_up.2 (by omega)
  simp [h1, this]
 ·simp [h1]
theorem z4n {w : Nat} : ∀ (d : Nat) {l m : List Lf} {p : Nat}, atP l d p = atP m d p → z0w l w d p = z0w m w d p
 | 0, l, m, p, h => by rw [z0w, z0w, h]
 | d + 1, l, m, p, h => by
   have h1 : atP l d (2 * p) = atP m d (2 * p) := by rw [← z6K (l := l) (.inl rfl), ← z6K (l := m) (.inl rfl), h]
   have h2 : atP l d (2 * p + 1) = atP m d (2 * p + 1) := by rw [← z6K (l := l) (.inr rfl), ← z6K (l := m) (.inr rfl), h]
   rw [z0w, z0w, h, z4n d h1, z4n d h2]
theorem z6L (l : List Lf) (w d p : Nat) {q : Nat} (h : q = 2 * p ∨ q = 2 * p + 1) : z0w (atP l (d + 1) p) w d q = z0w l w d q := z4n d (by
 rw [z6K h])
theorem zbo {w : Nat} : ∀ (d : Nat) {l : List Lf} {p : Nat}, atP l d p = [] → z0w l w d p = emB w d
 | 0, l, p, h => by rw [z0w, h]; rfl
 | d + 1, l, p, h => by rw [z0w, if_pos h]
def sib (a : Nat) : Nat := if a % 2 = 0 then a + 1 else a - 1
def z18 (l : List Lf) (w ix n : Nat) : List Bs := (List.range n).map fun j => z0w l w j (sib (ix / 2 ^ j))
theorem z3a (l : List Lf) (w ix n : Nat) : (z18 l w ix n).length = n := by simp [z18]
theorem zbp (l : List Lf) (w ix n : Nat) : z18 l w ix (n + 1) = z18 l w ix n ++ [z0w l w n (sib (ix / 2 ^ n))] := by simp [z18, List.range_succ]
theorem z4o {l : List Lf} {w ix n : Nat} (h : w ≤ 32) : ∀ s ∈ z18 l w ix n, s.length = w := by
 intro s hs
 simp only [z18, List.mem_map] at hs
 obtain ⟨j, _, rfl⟩ := hs
 exact z4P h _ _
def bitB (ix j : Nat) : Nat := ix / 2 ^ j % 2
def z1p (ix j : Nat) (h s : Bs) : List Bs := if bitB ix j = 1 then [s, h] else [h, s]
def z0Y (ix w : Nat) : Nat → Bs → List Bs → List Bs × Bs
 | _, h, [] => ([], h)
 | j, h, s :: ss =>
   let t := tagB 3 (z1p ix j h s)
   (t :: (z0Y ix w (j + 1) (cutB t w) ss).1, (z0Y ix w (j + 1) (cutB t w) ss).2)
theorem z3K (ix w : Nat) : ∀ (ss : List Bs) (j : Nat) (h : Bs), (z0Y ix w j h ss).1.length = ss.length
 | [], j, h => rfl
 | s :: ss, j, h => by simp [z0Y, z3K ix w ss]
theorem z4Q (ix w : Nat) : ∀ (ss : List Bs) (j : Nat) (h t : Bs), h = cutB t w → cutB ((t :: (z0Y ix w j h ss).1).getLastD []) w = (z0Y ix w j h ss).2
 | [], j, h, t, e => by simp [z0Y, e]
 | s :: ss, j, h, t, e => by
   simp only [z0Y]
   have := z4Q ix w ss (j + 1) (cutB (tagB 3 (z1p ix j h s)) w) (tagB 3 (z1p ix j h s)) rfl
   simpa [List.getLastD_cons] using this
end Go.Proofs.YtgmbkbggnlponaaGreatDoor.Pl
namespace Go.Proofs.YtgmbkbggnlponaaGreatDoor.Pl
set_option linter.unusedVariables false
set_option linter.unusedSimpArgs false
set_option linter.unusedSectionVars false
abbrev Ch := Int × Bs × Bs
def zgg (l : List Lf) (n : Bs) : Bs × Bool := ((z0I l n).getD [], (z0I l n).isSome)
end Go.Proofs.YtgmbkbggnlponaaGreatDoor.Pl
