/- Plain: the checksum. Plain: what is read is what was written, and the other way round. Plain: letters. Plain: entries. Entries, no program in sight: both readers agree. Plain: an entry is looked up, put, dropped. Plain: what holds of an entry that is put, and of one that is dropped; entries are read as they were written. Plain: proofs are read as they were written, by the program and by the reference alike. Plain: words of 32 bits, and the digest as the reference reckons it. Plain: the digest as the program reckons it is the reference's. Plain: the tree of hashes, and the way up from a bucket to the root. Plain: changes are applied one by one; the last change of a name counts. -/
import Derived.Test.YtfjbinbpgdiafaaGreatDoorPlain
import Derived.Laws.BitsAllLaws
import Derived.KernelRfl
namespace Go.Proofs.YtfjbinbpgdiafaaGreatDoor.Pl
set_option linter.unusedVariables false
set_option linter.unusedSimpArgs false
set_option linter.unusedSectionVars false
def step1 (s : Nat) : Nat := if s % 2 = 1 then (s / 2) ^^^ 3558460437 else s / 2
def stepN : Nat → Nat → Nat
 | 0, s => s
 | n + 1, s => step1 (stepN n s)
def zf7 (s : Nat) (l : Bs) : Nat := l.foldl (fun s b => stepN 8 (s ^^^ b.toNat)) s
def zf8 (l : Bs) : Nat := zf7 4294967295 l
def zf9 (x : Nat) : Bs := [UInt8.ofNat (x / 16777216), UInt8.ofNat (x / 65536), UInt8.ofNat (x / 256), UInt8.ofNat x]
end Go.Proofs.YtfjbinbpgdiafaaGreatDoor.Pl
namespace Go.Proofs.YtfjbinbpgdiafaaGreatDoor.Pl
set_option linter.unusedVariables false
set_option linter.unusedSimpArgs false
set_option linter.unusedSectionVars false
theorem za3 : ∀ (f k n : Nat) (r : Bs) (m c : Nat), rvGo f k n r = some (m, c) →
 ∃ (ds : Bs) (x : UInt8) (r' : Bs), r = ds ++ x :: r' ∧ (∀ d ∈ ds, 128 ≤ d.toNat) ∧ x.toNat < 128 ∧ c = k + ds.length + 1 ∧ m = n + val (ds ++ [x]) * 128 ^ k ∧ (x.toNat ≠ 0 ∨ (ds = [] ∧ k = 0))
 | 0, _, _, _, _, _, h => by cases h
 | _ + 1, _, _, [], _, _, h => by cases h
 | f + 1, k, n, x :: r, m, c, h => by
   rw [rvGo] at h
   split at h
   ·rename_i hx
    split at h
    ·cases h
    ·rename_i hb
     injection h with h; injection h with h1 h2
     refine ⟨[], x, r, rfl, by simp, hx, by simp; omega, ?_, ?_⟩
     ·have : val ([] ++ [x]) = x.toNat := by simp [val]; omega
      rw [this, z3S, h1]
     ·by_cases h0 : x.toNat = 0
      ·right; refine ⟨rfl, ?_⟩; omega
      ·exact .inl h0
   ·rename_i hx
    obtain ⟨ds, y, r', e, hd, hy, hc, hm, hz⟩ := za3 f (k + 1) _ r m c h
    refine ⟨x :: ds, y, r', by rw [e]; rfl, ?_, hy, by rw [List.length_cons]; omega, ?_, ?_⟩
    ·intro d hd'
     rcases List.mem_cons.1 hd' with rfl | hd'
     ·omega
     ·exact hd d hd'
    ·rw [hm, List.cons_append, val, ← z3S, Nat.pow_succ]
     have e1 : val (ds ++ [y]) * (128 ^ k * 128) = 128 * val (ds ++ [y]) * 128 ^ k := by rw [Nat.mul_comm (128 ^ k) 128, ← Nat.mul_assoc, Nat.mul_comm (val _) 128]
     rw [e1, Nat.add_mul, Nat.add_assoc]
    ·rcases hz with hz | ⟨_, hz⟩
     ·exact .inl hz
     ·omega
theorem z5d {t : Bs} {p n q : Nat} (h : z0w t p = some (n, q)) : t.drop p = z0f n ++ t.drop q ∧ q = p + (z0f n).length := by
 have hb := z0S h
 unfold z0w at h
 rcases hg : rvGo 5 0 0 (t.drop p) with _ | ⟨m, c⟩
 ·rw [hg] at h; cases h
 ·rw [hg] at h
  simp at h
  obtain ⟨rfl, rfl⟩ := h
  obtain ⟨ds, x, r', e, hd, hx, hc, hm, hz⟩ := za3 _ _ _ _ _ _ hg
  simp at hm hc
  have hv : z0f m = ds ++ [x] := by
   rw [hm]
   refine (z3c x hx ds hd).2 ?_
   rcases hz with hz | ⟨hz, _⟩
   ·exact .inl hz
   ·exact .inr hz
  have hl : (z0f m).length = c := by rw [hv]; simp; omega
  refine ⟨?_, by rw [hl]⟩
  rw [← List.drop_drop, e, hv]
  have : (ds ++ x :: r').drop c = r' := by
   rw [hc]
   have e2 : ds ++ x :: r' = (ds ++ [x]) ++ r' := by simp
   rw [e2]
   have : ds.length + 1 = (ds ++ [x]).length := by simp
   rw [this, List.drop_left]
  rw [this]; simp
theorem z70 : ∀ (n : Nat), ∃ (ds : Bs) (x : UInt8), z0f n = ds ++ [x] ∧ (∀ d ∈ ds, 128 ≤ d.toNat) ∧ x.toNat < 128 ∧ (x.toNat ≠ 0 ∨ ds = []) ∧ val (ds ++ [x]) = n := by
 intro n
 induction n using Nat.strongRecOn with
 | ind n ih =>
   by_cases hn : n ≤ 127
   ·refine ⟨[], UInt8.ofNat n, z0Y hn, by simp, ?_, .inr rfl, ?_⟩
    ·simp; omega
    ·simp [val]; omega
   ·obtain ⟨ds, x, e, hd, hx, hz, hv⟩ := ih (n / 128) (by omega)
    have ht : (UInt8.ofNat (128 + n % 128)).toNat = 128 + n % 128 := by simp; omega
    refine ⟨UInt8.ofNat (128 + n % 128) :: ds, x, by rw [z22 hn, e]; rfl, ?_, hx, ?_, ?_⟩
    ·intro d hd'
     rcases List.mem_cons.1 hd' with rfl | hd'
     ·omega
     ·exact hd d hd'
    ·rcases hz with hz | hz
     ·exact .inl hz
     ·subst hz
      left
      intro h0
      simp [val, h0] at hv
      omega
    ·rw [List.cons_append, val, hv, ht]; omega
theorem za4 : ∀ (ds : Bs) (x : UInt8) (r : Bs) (f k n : Nat), (∀ d ∈ ds, 128 ≤ d.toNat) → x.toNat < 128 → (x.toNat ≠ 0 ∨ (ds = [] ∧ k = 0)) → ds.length < f → n + val (ds ++ [x]) * 128 ^ k ≤ 1000000000 →
 rvGo f k n (ds ++ x :: r) = some (n + val (ds ++ [x]) * 128 ^ k, k + ds.length + 1)
 | [], x, r, f + 1, k, n, _, hx, hz, _, hm => by
   have hv : val ([] ++ [x]) = x.toNat := by simp [val]; omega
   rw [hv, z3S] at hm ⊢
   exact zbs f k n x r hx (by rcases hz with h | ⟨_, h⟩ <;> omega) hm
 | d :: ds, x, r, f + 1, k, n, hd, hx, hz, hf, hm => by
   have hd1 : 128 ≤ d.toNat := hd d (by simp)
   have hz1 : x.toNat ≠ 0 := by
    rcases hz with h | ⟨h, _⟩
    ·exact h
    ·cases h
   have e : n + d.toNat % 128 * 2 ^ (7 * k) + val (ds ++ [x]) * 128 ^ (k + 1) = n + val (d :: ds ++ [x]) * 128 ^ k := by
    rw [List.cons_append, val, ← z3S, Nat.pow_succ]
    have e1 : val (ds ++ [x]) * (128 ^ k * 128) = 128 * val (ds ++ [x]) * 128 ^ k := by rw [Nat.mul_comm (128 ^ k) 128, ← Nat.mul_assoc, Nat.mul_comm (val _) 128]
    rw [e1, Nat.add_mul, Nat.add_assoc]
   rw [List.cons_append, z4H _ _ _ _ _ (by omega), za4 ds x r f (k + 1) _ (fun y hy => hd y (by simp [hy])) hx (.inl hz1) (by simpa using hf) (by rw [e]; exact hm), e]
   simp; omega
theorem z5e {t : Bs} {p n : Nat} {r : Bs} (hn : n ≤ 1000000000) (h : t.drop p = z0f n ++ r) : z0w t p = some (n, p + (z0f n).length) := by
 obtain ⟨ds, x, e, hd, hx, hz, hv⟩ := z70 n
 have hl := z0Z (n := n) (by omega)
 rw [e] at hl
 simp at hl
 have hg := za4 ds x r 5 0 0 hd hx (by rcases hz with h | h <;> simp [h]) (by omega) (by rw [hv]; omega)
 rw [z0w, h, e, List.append_assoc]
 show (rvGo 5 0 0 (ds ++ x :: r)).map _ = _
 rw [hg, hv]
 simp
theorem z71 {t : Bs} {p q : Nat} {l : Bs} (h : z0n t p = some (l, q)) : t.drop p = z0e l ++ t.drop q ∧ q = p + (z0e l).length := by
 unfold z0n at h
 rcases hr : z0w t p with _ | ⟨n, c⟩
 ·rw [hr] at h; cases h
 ·have hb := z0S hr
  obtain ⟨e1, e2⟩ := z5d hr
  rw [hr] at h
  simp only at h
  split at h
  ·rename_i hc
   injection h with h; injection h with h1 h2; subst h1; subst h2
   have hl : ((t.drop c).take n).length = n := by simp; omega
   refine ⟨?_, by rw [z0e, List.length_append, hl]; omega⟩
   rw [z0e, hl, e1, List.append_assoc, ← List.drop_drop, List.take_append_drop]
  ·cases h
theorem z72 {t : Bs} {p : Nat} {l r : Bs} (hl : l.length ≤ 20000) (h : t.drop p = z0e l ++ r) : z0n t p = some (l, p + (z0e l).length) := by
 have hr : z0w t p = some (l.length, p + (z0f l.length).length) := z5e (r := l ++ r) (by omega) (by rw [h, z0e, List.append_assoc])
 have hd : t.drop (p + (z0f l.length).length) = l ++ r := by rw [← List.drop_drop, h, z0e, List.append_assoc, List.drop_left]
 have hlen := congrArg List.length hd
 simp at hlen
 rw [z0n, hr]
 simp only
 rw [if_pos ⟨hl, by omega⟩, hd, List.take_left, z0e, List.length_append]
 simp; omega
def numS (t : Bs) (p : Nat) (bad : Bool) : Nat × Nat × Bool := if bad = true then (0, p, true) else z1w t p false
def z1a (t : Bs) (p : Nat) (bad : Bool) : Bs × Nat × Bool := if bad = true then ([], p, true) else z0m t p false
theorem z8Y (t : Bs) (p : Nat) : (z0m t p true).2.2 = true := by unfold z0m; split <;> rfl
theorem zaZ (t : Bs) (p : Nat) : (z1a t p true).2.2 = true := rfl
theorem zcc (t : Bs) (p : Nat) : numS t p false = z1w t p false := rfl
theorem z5f (t : Bs) (p : Nat) : z1a t p false = z0m t p false := rfl
theorem zcd {t : Bs} {p n q : Nat} {b : Bool} (h : z1w t p b = (n, q, false)) : b = false ∧ n ≤ 1000000000 ∧ t.drop p = z0f n ++ t.drop q ∧ q = p + (z0f n).length := by
 unfold z1w at h
 rcases hr : z0w t p with _ | ⟨m, c⟩
 ·rw [hr] at h; simp at h
 ·rw [hr] at h
  simp at h
  obtain ⟨rfl, rfl, rfl⟩ := h
  exact ⟨rfl, (z0S hr).2.2.2, z5d hr⟩
theorem z5g {t : Bs} {p q : Nat} {l : Bs} {b : Bool} (h : z0m t p b = (l, q, false)) : b = false ∧ l.length ≤ 20000 ∧ t.drop p = z0e l ++ t.drop q ∧ q = p + (z0e l).length := by
 unfold z0m at h
 rcases hr : z0n t p with _ | ⟨m, c⟩
 ·rw [hr] at h; simp at h
 ·rw [hr] at h
  simp at h
  obtain ⟨rfl, rfl, rfl⟩ := h
  exact ⟨rfl, (z1k hr).2.2, z71 hr⟩
theorem z3G {t : Bs} {p n : Nat} {r : Bs} (hn : n ≤ 1000000000) (h : t.drop p = z0f n ++ r) (b : Bool) : z1w t p b = (n, p + (z0f n).length, b) := by
 rw [z1w, z5e hn h]
theorem z25 {t : Bs} {p : Nat} {l r : Bs} (hl : l.length ≤ 20000) (h : t.drop p = z0e l ++ r) (b : Bool) : z0m t p b = (l, p + (z0e l).length, b) := by
 rw [z0m, z72 hl h]
theorem z5h {t : Bs} {p : Nat} {bad : Bool} (hp : p ≤ t.length) : (numS t p bad).2.1 ≤ t.length ∧ (numS t p bad).1 ≤ 1000000000 := by
 unfold numS; split
 ·exact ⟨hp, by simp⟩
 ·exact z2V hp
theorem z5i {t : Bs} {p : Nat} {bad : Bool} (hp : p ≤ t.length) : (z1a t p bad).2.1 ≤ t.length ∧ (z1a t p bad).1.length ≤ 20000 := by
 unfold z1a; split
 ·exact ⟨hp, by simp⟩
 ·exact z0L hp
end Go.Proofs.YtfjbinbpgdiafaaGreatDoor.Pl
namespace Go.Proofs.YtfjbinbpgdiafaaGreatDoor.Pl
set_option linter.unusedVariables false
set_option linter.unusedSimpArgs false
set_option linter.unusedSectionVars false
def inB (n lo hi : Int) : Bool := decide (lo ≤ n) && decide (n ≤ hi)
theorem z1b {n lo hi : Int} : inB n lo hi = true ↔ lo ≤ n ∧ n ≤ hi := by simp [inB]
abbrev Lt := Nat × Nat × Nat × Nat × Nat × Bs
end Go.Proofs.YtfjbinbpgdiafaaGreatDoor.Pl
namespace Go.Proofs.YtfjbinbpgdiafaaGreatDoor.Pl
set_option linter.unusedVariables false
set_option linter.unusedSimpArgs false
set_option linter.unusedSectionVars false
abbrev Lf := Bs × Bs
def ltB (a b : Bs) : Bool := Op.bytesLess a b
def lfAt (l : List Lf) (i : Nat) : Lf := l.getD i ([], [])
def z1v (l : List Lf) (i : Nat) : Bool := z0E (lfAt l i).1 && z17 (lfAt l i).2 && (i == 0 || ltB (lfAt l (i - 1)).1 (lfAt l i).1)
def leavesOk (l : List Lf) : Bool := decide (l.length ≤ 24) && (List.range l.length).all (z1v l)
theorem z4f {l : List Lf} {k : Nat} (hk : k < l.length) (h : z1v l k = false) : leavesOk l = false := by
 have : (List.range l.length).all (z1v l) = false := by
  rw [List.all_eq_false]
  exact ⟨k, List.mem_range.2 hk, by simp [h]⟩
 rw [leavesOk, this, Bool.and_false]
theorem z2w {l : List Lf} (h : 24 < l.length) : leavesOk l = false := by
 have : decide (l.length ≤ 24) = false := by simp; omega
 rw [leavesOk, this, Bool.false_and]
theorem z2x {l : List Lf} (hl : l.length ≤ 24) (h : ∀ k, k < l.length → z1v l k = true) : leavesOk l = true := by
 have h1 : decide (l.length ≤ 24) = true := by simpa using hl
 have h2 : (List.range l.length).all (z1v l) = true := List.all_eq_true.2 fun k hk => h k (List.mem_range.1 hk)
 rw [leavesOk, h1, h2]; rfl
theorem z4g {l : List Lf} : leavesOk l = true ↔ l.length ≤ 24 ∧ ∀ k, k < l.length → z1v l k = true := by
 constructor
 ·intro h
  rw [leavesOk, Bool.and_eq_true, decide_eq_true_iff, List.all_eq_true] at h
  exact ⟨h.1, fun k hk => h.2 k (List.mem_range.2 hk)⟩
 ·rintro ⟨h1, h2⟩; exact z2x h1 h2
def z1i (x : Lf) : Bs := z0e x.1 ++ z0e x.2
def z0l (l : List Lf) : Bs := z0f l.length ++ l.flatMap z1i
abbrev Sh := Nat → Bool → Bs × Nat × Bool
def z0F (sh : Sh) : Nat → Nat → Bool → List Lf × Nat × Bool
 | 0, p, b => ([], p, b)
 | _ + 1, p, true => ([], p, true)
 | n + 1, p, false => (((sh p false).1, (sh (sh p false).2.1 (sh p false).2.2).1) :: (z0F sh n (sh (sh p false).2.1 (sh p false).2.2).2.1 (sh (sh p false).2.1 (sh p false).2.2).2.2).1,
     (z0F sh n (sh (sh p false).2.1 (sh p false).2.2).2.1 (sh (sh p false).2.1 (sh p false).2.2).2.2).2)
def LvAt (sh : Sh) (R : List Lf × Nat × Bool) (n : Nat) (l : List Lf) (q : Nat) (b : Bool) : Prop := R = (l ++ (z0F sh n q b).1, (z0F sh n q b).2)
theorem LvAt.start (sh : Sh) (n q : Nat) (b : Bool) : LvAt sh (z0F sh n q b) n [] q b := rfl
theorem LvAt.step {sh : Sh} {R : List Lf × Nat × Bool} {n q q1 q2 : Nat} {l : List Lf} {a v : Bs} {b1 b2 : Bool} (h : LvAt sh R (n + 1) l q false) (h1 : sh q false = (a, q1, b1)) (h2 : sh q1 b1 = (v, q2, b2)) : LvAt sh R n (l ++ [(a, v)]) q2 b2 := by
 unfold LvAt at h ⊢
 rw [h, z0F, h1]
 simp only [h2]
 simp
theorem LvAt.done {sh : Sh} {R : List Lf × Nat × Bool} {q : Nat} {l : List Lf} {b : Bool} (h : LvAt sh R 0 l q b) : R = (l, q, b) := by
 unfold LvAt at h; rw [h, z0F]; simp
theorem LvAt.bad {sh : Sh} {R : List Lf × Nat × Bool} {n q : Nat} {l : List Lf} (h : LvAt sh R n l q true) : R = (l, q, true) := by
 unfold LvAt at h; rw [h]
 cases n <;> simp [z0F]
def z2h (t : Bs) (p : Nat) (bad : Bool) : List Lf × Nat × Bool :=
 let r := z0F (z0m t) (z1w t p bad).1 (z1w t p bad).2.1 (if 24 < (z1w t p bad).1 then true else (z1w t p bad).2.2)
 (r.1, r.2.1, r.2.2 || !leavesOk r.1)
def z2y (t : Bs) (p : Nat) (bad : Bool) : List Lf × Nat × Bool :=
 z0F (z1a t) (min (numS t p bad).1 30) (numS t p bad).2.1 (numS t p bad).2.2
end Go.Proofs.YtfjbinbpgdiafaaGreatDoor.Pl
namespace Go.Proofs.YtfjbinbpgdiafaaGreatDoor.Pl
set_option linter.unusedVariables false
set_option linter.unusedSimpArgs false
set_option linter.unusedSectionVars false
theorem z2Y (sh : Sh) (n q : Nat) : z0F sh n q true = ([], q, true) := by cases n <;> rfl
theorem z3m {sh : Sh} {n q q1 q2 : Nat} {a v : Bs} {b1 b2 : Bool} (h1 : sh q false = (a, q1, b1)) (h2 : sh q1 b1 = (v, q2, b2)) :
 z0F sh (n + 1) q false = ((a, v) :: (z0F sh n q2 b2).1, (z0F sh n q2 b2).2) := by
 rw [z0F, h1]; simp only [h2]
theorem z2M (t : Bs) : ∀ (n q : Nat) (b : Bool), ((z0F (z0m t) n q b).2.2 = true ∧ (z0F (z1a t) n q b).2.2 = true) ∨ z0F (z0m t) n q b = z0F (z1a t) n q b
 | 0, q, b => .inr rfl
 | n + 1, q, true => .inr rfl
 | n + 1, q, false => by
   rcases h1 : z0m t q false with ⟨a, q1, b1⟩
   have h1' : z1a t q false = (a, q1, b1) := by rw [z5f]; exact h1
   rcases h2 : z0m t q1 b1 with ⟨v, q2, b2⟩
   rcases h2' : z1a t q1 b1 with ⟨v', q2', b2'⟩
   rw [z3m h1 h2, z3m h1' h2']
   cases b1
   ·rw [z5f, h2] at h2'
    cases h2'
    rcases z2M t n q2 b2 with h | h
    ·exact .inl h
    ·right; rw [h]
   ·have e1 := z8Y t q1
    have e2 := zaZ t q1
    rw [h2] at e1
    rw [h2'] at e2
    simp only at e1 e2
    subst e1; subst e2
    simp [z2Y]
theorem z42 {t : Bs} : ∀ {n q q2 : Nat} {l : List Lf}, z0F (z0m t) n q false = (l, q2, false) → q ≤ t.length →
 l.length = n ∧ q2 ≤ t.length ∧ t.drop q = l.flatMap z1i ++ t.drop q2
 | 0, q, q2, l, h, hq => by
   simp only [z0F] at h
   cases h
   exact ⟨rfl, hq, by simp⟩
 | n + 1, q, q2, l, h, hq => by
   rcases h1 : z0m t q false with ⟨a, q1, b1⟩
   rcases h2 : z0m t q1 b1 with ⟨v, q3, b2⟩
   rw [z3m h1 h2] at h
   cases b2
   ·obtain ⟨hb, _, d2, _⟩ := z5g h2
    subst hb
    obtain ⟨_, _, d1, _⟩ := z5g h1
    have l1 := (z0L (bad := false) hq).1
    rw [h1] at l1
    have l2 := (z0L (bad := false) (p := q1) l1).1
    rw [h2] at l2
    rcases hr : z0F (z0m t) n q3 false with ⟨l', q4, b4⟩
    rw [hr] at h
    simp only at h
    cases h
    obtain ⟨e1, e2, e3⟩ := z42 hr l2
    refine ⟨by simp [e1], e2, ?_⟩
    rw [List.flatMap_cons, z1i, d1, d2, e3]
    simp
   ·rw [z2Y] at h
    simp at h
def z0V (t : Bs) : Option (List Lf) :=
 let R := z2h t 0 false
 if z3b R.2.2 R.2.1 t.length = true then some R.1 else none
def z73 (t : Bs) : Option (List Lf) :=
 let R := z2y t 0 false
 if R.2.2 = false ∧ leavesOk R.1 = true ∧ z0l R.1 = t then some R.1 else none
theorem z4h (t : Bs) : z0V t = z73 t := by
 rcases hN : z1w t 0 false with ⟨n, p1, b1⟩
 have hN' : numS t 0 false = (n, p1, b1) := by rw [zcc]; exact hN
 simp only [z0V, z73, z2h, z2y, hN, hN']
 have hp := (z2V (bad := false) (p := 0) (t := t) (by omega)).1
 rw [hN] at hp
 simp only at hp
 cases b1
 ·obtain ⟨_, _, d0, _⟩ := zcd hN
  by_cases h24 : 24 < n
  ·rw [if_pos h24]
   simp only [z2Y, z3b]
   rcases hS : z0F (z1a t) (min n 30) p1 false with ⟨l, q, b⟩
   rcases z2M t (min n 30) p1 false with h | h
   ·rw [hS] at h
    have := h.2
    simp only at this
    subst this
    simp
   ·rw [hS] at h
    cases b
    ·have hl := (z42 h hp).1
     have := z2w (l := l) (by omega)
     simp [this]
    ·simp
  ·rw [if_neg h24, show min n 30 = n from by omega]
   rcases z2M t n p1 false with h | h
   ·simp [h.1, h.2, z3b]
   ·rcases hS : z0F (z1a t) n p1 false with ⟨l, q, b⟩
    rw [h, hS]
    rw [hS] at h
    cases b
    ·obtain ⟨e1, e2, e3⟩ := z42 h hp
     have hT : z0l l ++ t.drop q = t := by
      rw [z0l, e1, List.append_assoc, ← e3, ← d0]; rfl
     cases leavesOk l
     ·simp [z3b]
     ·by_cases hq : q = t.length
      ·have : z0l l = t := by
        rw [hq, List.drop_length, List.append_nil] at hT; exact hT
       simp [z3b, hq, this]
      ·have : z0l l ≠ t := by
        intro h0
        rw [h0] at hT
        have := congrArg List.length hT
        simp at this
        omega
       simp [z3b, hq, this]
    ·simp [z3b]
 ·have : (if 24 < n then true else true) = true := by split <;> rfl
  rw [this]
  simp [z2Y, z3b]
end Go.Proofs.YtfjbinbpgdiafaaGreatDoor.Pl
namespace Go.Proofs.YtfjbinbpgdiafaaGreatDoor.Pl
set_option linter.unusedVariables false
set_option linter.unusedSimpArgs false
set_option linter.unusedSectionVars false
def z0W (l : List Lf) (n : Bs) : Option Bs := (l.find? fun x => x.1 == n).map (·.2)
def z1C (l : List Lf) (n : Bs) : List Lf := l.filter fun x => x.1 != n
theorem z84 {l : List Lf} {k : Nat} (h : k < l.length) : lfAt l k = l[k] := by simp [lfAt, List.getD, List.getElem?_eq_getElem h]
theorem z1j (l : List Lf) (k : Nat) (h : k < l.length) : l.take (k + 1) = l.take k ++ [lfAt l k] := by
 rw [List.take_add_one, List.getElem?_eq_getElem h, z84 h]; rfl
theorem za5 {l : List Lf} {k : Nat} {n : Bs} (h : k < l.length) (hx : z0W (l.take k) n = none) (hne : (lfAt l k).1 ≠ n) : z0W (l.take (k + 1)) n = none := by
 rw [z1j l k h]
 simp only [z0W, Option.map_eq_none_iff] at hx ⊢
 rw [List.find?_append, hx]
 simp [hne]
theorem za6 {l : List Lf} {k : Nat} {n : Bs} (h : k < l.length) (hx : z0W (l.take k) n = none) (he : (lfAt l k).1 = n) : z0W l n = some (lfAt l k).2 := by
 have e : z0W l n = z0W (l.take (k + 1) ++ l.drop (k + 1)) n := by rw [List.take_append_drop]
 rw [e, z1j l k h]
 simp only [z0W, Option.map_eq_none_iff] at hx ⊢
 rw [List.find?_append, List.find?_append, hx]
 simp [he]
theorem z26 {f : Lf → Bool} {l : List Lf} {k : Nat} (h : k < l.length) : (l.take (k + 1)).filter f = (l.take k).filter f ++ (if f (lfAt l k) = true then [lfAt l k] else []) := by
 rw [z1j l k h, List.filter_append]
 congr 1
 cases hf : f (lfAt l k) <;> simp [hf]
theorem z4i {l : List Lf} {k : Nat} {n : Bs} (h : k < l.length) : z1C (l.take (k + 1)) n = z1C (l.take k) n ++ (if (lfAt l k).1 = n then [] else [lfAt l k]) := by
 unfold z1C
 rw [z26 h]
 by_cases he : (lfAt l k).1 = n <;> simp [he]
def lowL (l : List Lf) (n : Bs) : List Lf := l.filter fun x => ltB x.1 n
def z4p (l : List Lf) (n : Bs) : List Lf := l.filter fun x => !(ltB x.1 n || decide (x.1 = n))
def putL (l : List Lf) (n v : Bs) : List Lf := lowL (z1C l n) n ++ [(n, v)] ++ z4p (z1C l n) n
def putR (l : List Lf) (n v : Bs) : List Lf × Bool := bif leavesOk l && leavesOk (putL l n v) then (putL l n v, true) else (l, false)
theorem zce {l : List Lf} {k : Nat} {n : Bs} (h : k < l.length) : lowL (l.take (k + 1)) n = lowL (l.take k) n ++ (if ltB (lfAt l k).1 n = true then [lfAt l k] else []) := z26 h
theorem zb0 {l : List Lf} {k : Nat} {n : Bs} (h : k < l.length) : z4p (l.take (k + 1)) n = z4p (l.take k) n ++ (if (!(ltB (lfAt l k).1 n || decide ((lfAt l k).1 = n))) = true then [lfAt l k] else []) := z26 h
end Go.Proofs.YtfjbinbpgdiafaaGreatDoor.Pl
namespace Go.Proofs.YtfjbinbpgdiafaaGreatDoor.Pl
set_option linter.unusedVariables false
set_option linter.unusedSimpArgs false
set_option linter.unusedSectionVars false
theorem zen (a : Bs) : ltB a [] = false := by cases a <;> rfl
theorem zcf (a b : UInt8) (x y : Bs) : ltB (a :: x) (b :: y) = (decide (a < b) || (a == b && ltB x y)) := rfl
theorem lt_irrefl : ∀ a : Bs, ltB a a = false
 | [] => rfl
 | a :: x => by rw [zcf, lt_irrefl x]; simp
theorem lt_trans : ∀ {a b c : Bs}, ltB a b = true → ltB b c = true → ltB a c = true
 | _, [], _, h, _ => by rw [zen] at h; cases h
 | _, _, [], _, h => by rw [zen] at h; cases h
 | [], _ :: _, _ :: _, _, _ => rfl
 | a :: x, b :: y, c :: z, h, k => by
   rw [zcf] at h k ⊢
   simp only [Bool.or_eq_true, decide_eq_true_eq, Bool.and_eq_true, beq_iff_eq] at h k ⊢
   rcases h with h | ⟨rfl, h⟩
   ·rcases k with k | ⟨rfl, k⟩
    ·exact .inl (UInt8.lt_trans h k)
    ·exact .inl h
   ·rcases k with k | ⟨rfl, k⟩
    ·exact .inl k
    ·exact .inr ⟨rfl, lt_trans h k⟩
def Sorted (l : List Lf) : Prop := l.Pairwise fun a b => ltB a.1 b.1 = true
theorem z0G {l : List Lf} (h : leavesOk l = true) : l.length ≤ 24 ∧ (∀ x ∈ l, z0E x.1 = true ∧ z17 x.2 = true) ∧ Sorted l := by
 obtain ⟨h1, h2⟩ := z4g.1 h
 have st : ∀ k (hk : k < l.length), z0E l[k].1 = true ∧ z17 l[k].2 = true ∧ (k = 0 ∨ ltB (lfAt l (k - 1)).1 l[k].1 = true) := fun k hk => by
  have := h2 k hk
  rw [z1v, z84 hk] at this
  simpa [and_assoc] using this
 refine ⟨h1, fun x hx => ?_, ?_⟩
 ·obtain ⟨k, hk, rfl⟩ := List.getElem_of_mem hx
  exact ⟨(st k hk).1, (st k hk).2.1⟩
 ·rw [Sorted, List.pairwise_iff_getElem]
  intro i j hi hj hij
  have key : ∀ d, (h : i + d + 1 < l.length) → ltB l[i].1 l[i + d + 1].1 = true := by
   intro d
   induction d with
   | zero =>
     intro h
     have := ((st (i + 1) h).2.2).resolve_left (by omega)
     rwa [Nat.add_sub_cancel, z84 hi] at this
   | succ d ih =>
     intro h
     have a := ih (by omega)
     have b := ((st (i + (d + 1) + 1) h).2.2).resolve_left (by omega)
     rw [Nat.add_sub_cancel, z84 (show i + (d + 1) < l.length by omega)] at b
     exact lt_trans a b
  have := key (j - i - 1) (by omega)
  simpa [show i + (j - i - 1) + 1 = j by omega] using this
theorem z85 {l : List Lf} (h1 : l.length ≤ 24) (h2 : ∀ x ∈ l, z0E x.1 = true ∧ z17 x.2 = true) (h3 : Sorted l) : leavesOk l = true := by
 refine z4g.2 ⟨h1, fun k hk => ?_⟩
 rw [z1v, z84 hk, (h2 _ (List.getElem_mem hk)).1, (h2 _ (List.getElem_mem hk)).2]
 cases k with
 | zero => rfl
 | succ k =>
   rw [Nat.add_sub_cancel, z84 (show k < l.length by omega)]
   have := (List.pairwise_iff_getElem.1 h3) k (k + 1) (by omega) hk (by omega)
   rw [this]; rfl
theorem Sorted.filter {l : List Lf} (h : Sorted l) (f : Lf → Bool) : Sorted (l.filter f) := List.Pairwise.filter _ h
theorem z6n {t : Bs} : ∀ {l : List Lf} {p : Nat} {r : Bs}, (∀ x ∈ l, x.1.length ≤ 20000 ∧ x.2.length ≤ 20000) → t.drop p = l.flatMap z1i ++ r → z0F (z0m t) l.length p false = (l, p + (l.flatMap z1i).length, false)
 | [], p, r, _, _ => by simp [z0F]
 | x :: l, p, r, hs, h => by
   have h0 : t.drop p = z0e x.1 ++ (z0e x.2 ++ (l.flatMap z1i ++ r)) := by rw [h]; simp [z1i]
   have hx := hs x (by simp)
   have e1 := z25 hx.1 h0 false
   have hd1 : t.drop (p + (z0e x.1).length) = z0e x.2 ++ (l.flatMap z1i ++ r) := by
    rw [← List.drop_drop, h0, List.drop_left]
   have e2 := z25 hx.2 hd1 false
   have hd2 : t.drop (p + (z0e x.1).length + (z0e x.2).length) = l.flatMap z1i ++ r := by
    rw [← List.drop_drop, hd1, List.drop_left]
   have ih := z6n (fun y hy => hs y (by simp [hy])) hd2
   rw [List.length_cons, z0F, e1]
   simp only [e2, ih]
   simp [z1i]
   omega
theorem z1D {s : Bs} (h : z0E s = true) : s.length ≤ 12 := by
 simp [z0E, allN] at h; exact h.1.2
theorem z27 {s : Bs} (h : z17 s = true) : s.length ≤ 12 := by
 simp [z17, allN] at h; exact h.1.2
theorem z5j {l : List Lf} (h : leavesOk l = true) : z0V (z0l l) = some l := by
 obtain ⟨h1, h2, _⟩ := z0G h
 have hN : z1w (z0l l) 0 false = (l.length, 0 + (z0f l.length).length, false) := z3G (by omega) (r := l.flatMap z1i) (by rw [List.drop_zero]; rfl) false
 have hL : z0F (z0m (z0l l)) l.length (0 + (z0f l.length).length) false = (l, 0 + (z0f l.length).length + (l.flatMap z1i).length, false) :=
  z6n (r := []) (fun x hx => by have := z1D (h2 x hx).1; have := z27 (h2 x hx).2; omega) (by rw [z0l, Nat.zero_add, List.drop_left]; simp)
 have hno : ¬ 24 < l.length := by omega
 simp only [z0V, z2h, hN, if_neg hno, hL, h]
 have : (z0l l).length = (z0f l.length).length + (l.flatMap z1i).length := by rw [z0l, List.length_append]
 simp [z3b, this]
end Go.Proofs.YtfjbinbpgdiafaaGreatDoor.Pl
namespace Go.Proofs.YtfjbinbpgdiafaaGreatDoor.Pl
set_option linter.unusedVariables false
set_option linter.unusedSimpArgs false
set_option linter.unusedSectionVars false
def zcg (t : Bs) (w : Nat) : Nat → Nat → Bool → List Bs × Nat × Bool
 | 0, p, b => ([], p, b)
 | n + 1, p, b => ((z0z t p b w).1 :: (zcg t w n (z0z t p b w).2.1 (z0z t p b w).2.2).1, (zcg t w n (z0z t p b w).2.1 (z0z t p b w).2.2).2)
theorem z8Z (t : Bs) (p w : Nat) : z0z t p true w = ([], p, true) := by simp [z0z]
def wideB (s : List Bs) (w : Int) : Bool := s.all (fun x => decide ((x.length : Int) = w)) && inB w 1 32
end Go.Proofs.YtfjbinbpgdiafaaGreatDoor.Pl
namespace Go.Proofs.YtfjbinbpgdiafaaGreatDoor.Pl
set_option linter.unusedVariables false
set_option linter.unusedSimpArgs false
set_option linter.unusedSectionVars false
def shlN (x : UInt32) (n : Nat) : UInt32 := UInt32.ofNat (x.toNat * 2 ^ n)
def shrN (x : UInt32) (n : Nat) : UInt32 := UInt32.ofNat (x.toNat / 2 ^ n)
def o8 (b : UInt8) : UInt32 := UInt32.ofNat b.toNat
def z1Q (x : UInt32) (n : Nat) : UInt32 := shrN x n ||| shlN x (32 - n)
def zdI (b : Bs) (i : Nat) : UInt32 := shlN (o8 (b.getD (4 * i) 0)) 24 ||| shlN (o8 (b.getD (4 * i + 1) 0)) 16 ||| shlN (o8 (b.getD (4 * i + 2) 0)) 8 ||| o8 (b.getD (4 * i + 3) 0)
def upd (f : Nat → UInt32) (i : Nat) (x : UInt32) : Nat → UInt32 := fun j => bif Nat.beq j i then x else f j
def z2A (b : Bs) (i : Nat) : Nat → UInt32 := (List.range i).foldl (fun ws k => upd ws k (zdI b k)) (fun _ => 0)
def z3H (ws : Nat → UInt32) (i : Nat) : Nat → UInt32 :=
 upd ws i (ws (i - 16) + (z1Q (ws (i - 15)) 7 ^^^ z1Q (ws (i - 15)) 18 ^^^ shrN (ws (i - 15)) 3) + ws (i - 7) + (z1Q (ws (i - 2)) 17 ^^^ z1Q (ws (i - 2)) 19 ^^^ shrN (ws (i - 2)) 10))
def z2n (ws : Nat → UInt32) (i : Nat) : Nat → UInt32 := (List.range (i - 16)).foldl (fun ws k => z3H ws (k + 16)) ws
structure W8 where
 a : UInt32
 b : UInt32
 c : UInt32
 d : UInt32
 e : UInt32
 f : UInt32
 g : UInt32
 h : UInt32
def W8.list (s : W8) : List UInt32 := [s.a, s.b, s.c, s.d, s.e, s.f, s.g, s.h]
def rnd (s : W8) (k w : UInt32) : W8 :=
 let one := s.h + (z1Q s.e 6 ^^^ z1Q s.e 11 ^^^ z1Q s.e 25) + (s.e &&& s.f ^^^ (s.e ^^^ 4294967295) &&& s.g) + k + w
 let two := (z1Q s.a 2 ^^^ z1Q s.a 13 ^^^ z1Q s.a 22) + (s.a &&& s.b ^^^ s.a &&& s.c ^^^ s.b &&& s.c)
 ⟨one + two, s.a, s.b, s.c, s.d + one, s.e, s.f, s.g⟩
def rnds (s : W8) (ks ws : Nat → UInt32) (i : Nat) : W8 := (List.range i).foldl (fun s j => rnd s (ks j) (ws j)) s
def addW (h s : Nat → UInt32) (i : Nat) : Nat → UInt32 := (List.range i).foldl (fun l j => upd l j (l j + s j)) h
def W8.fn (s : W8) : Nat → UInt32 := fun j => s.list.getD j 0
def add8 (h s : W8) : W8 := ⟨h.a + s.a, h.b + s.b, h.c + s.c, h.d + s.d, h.e + s.e, h.f + s.f, h.g + s.g, h.h + s.h⟩
def z6q (h : W8) (b : Bs) (ks : Nat → UInt32) : W8 := add8 h (rnds h ks (z2n (z2A b 16) 64) 64)
theorem z5l (b : Bs) (i : Nat) : z2A b (i + 1) = upd (z2A b i) i (zdI b i) := by simp [z2A, List.range_succ]
theorem z5m {ws : Nat → UInt32} {i : Nat} (h : 16 ≤ i) : z2n ws (i + 1) = z3H (z2n ws i) i := by
 rw [z2n, z2n, show i + 1 - 16 = (i - 16) + 1 by omega, List.range_succ, List.foldl_append]
 simp [show i - 16 + 16 = i by omega]
theorem z8c (s : W8) (ks ws : Nat → UInt32) (i : Nat) : rnds s ks ws (i + 1) = rnd (rnds s ks ws i) (ks i) (ws i) := by simp [rnds, List.range_succ]
theorem z5n (h s : Nat → UInt32) (i : Nat) : addW h s (i + 1) = upd (addW h s i) i (addW h s i i + s i) := by simp [addW, List.range_succ]
theorem z79 (h s : Nat → UInt32) : ∀ (i j : Nat), addW h s i j = if j < i then h j + s j else h j
 | 0, j => rfl
 | i + 1, j => by
   rw [z5n, upd, z79 h s i, z79 h s i]
   by_cases hj : j = i
   ·subst hj; simp
   ·have : Nat.beq j i = false := by
     cases hb : Nat.beq j i with
     | false => rfl
     | true => exact absurd (Nat.eq_of_beq_eq_true hb) hj
    rw [this, cond_false]
    by_cases h1 : j < i
    ·rw [if_pos h1, if_pos (by omega)]
    ·rw [if_neg h1, if_neg (by omega)]
def z0H : Nat → Bs → Bs
 | 0, t => t
 | n + 1, t => if t.length % 64 = 56 then t else z0H n (t ++ [0])
def lenB (n : Nat) (i : Nat) : Bs := (List.range i).map fun j => UInt8.ofNat (n / 2 ^ (8 * (7 - j)))
def padB (t : Bs) : Bs := z0H 64 (t ++ [128]) ++ lenB (8 * t.length) 8
def z1R (h : W8) (p : Bs) (ks : Nat → UInt32) (i : Nat) : W8 := (List.range i).foldl (fun h j => z6q h ((p.drop (64 * j)).take 64) ks) h
theorem z4j (h : W8) (p : Bs) (ks : Nat → UInt32) (i : Nat) : z1R h p ks (i + 1) = z6q (z1R h p ks i) ((p.drop (64 * i)).take 64) ks := by simp [z1R, List.range_succ]
def out4 (out : Bs) (x : UInt32) (i : Nat) : Bs :=
 (((out.set (4 * i) (UInt8.ofNat (shrN x 24).toNat)).set (4 * i + 1) (UInt8.ofNat (shrN x 16).toNat)).set (4 * i + 2) (UInt8.ofNat (shrN x 8).toNat)).set (4 * i + 3) (UInt8.ofNat x.toNat)
def outB (h : Nat → UInt32) (i : Nat) : Bs := (List.range i).foldl (fun out j => out4 out (h j) j) (List.replicate 32 0)
theorem z8d (h : Nat → UInt32) (i : Nat) : outB h (i + 1) = out4 (outB h i) (h i) i := by simp [outB, List.range_succ]
theorem z7a (h : Nat → UInt32) : ∀ i, (outB h i).length = 32
 | 0 => rfl
 | i + 1 => by rw [z8d]; simp only [out4, List.length_set]; exact z7a h i
def first8 : W8 := ⟨1779033703, 3144134277, 1013904242, 2773480762, 1359893119, 2600822924, 528734635, 1541459225⟩
def keys64 : List UInt32 := [1116352408, 1899447441, 3049323471, 3921009573, 961987163, 1508970993, 2453635748, 2870763221, 3624381080, 310598401, 607225278, 1426881987, 1925078388, 2162078206, 2614888103, 3248222580, 3835390401, 4022224774, 264347078, 604807628, 770255983, 1249150122, 1555081692, 1996064986, 2554220882, 2821834349, 2952996808, 3210313671, 3336571891, 3584528711, 113926993, 338241895, 666307205, 773529912, 1294757372, 1396182291, 1695183700, 1986661051, 2177026350, 2456956037, 2730485921, 2820302411, 3259730800, 3345764771, 3516065817, 3600352804, 4094571909, 275423344, 430227734, 506948616, 659060556, 883997877, 958139571, 1322822218, 1537002063, 1747873779, 1955562222, 2024104815, 2227730452, 2361852424, 2428436474, 2756734187, 3204031479, 3329325298]
def kF : Nat → UInt32 := fun j => keys64.getD j 0
def z2a (t : Bs) : Bs := outB (z1R first8 (padB t) kF ((padB t).length / 64)).fn 8
theorem z5o : ∀ (n : Nat) (t : Bs), (56 + 64 - t.length % 64) % 64 ≤ n → (z0H n t).length % 64 = 56 ∧ (z0H n t).length ≤ t.length + n
 | 0, t, h => by simp only [z0H]; omega
 | n + 1, t, h => by
   simp only [z0H]
   split
   ·omega
   ·have := z5o n (t ++ [0]) (by simp; omega)
    simp at this ⊢
    omega
theorem zad (t : Bs) : (padB t).length % 64 = 0 ∧ (padB t).length ≤ t.length + 73 ∧ 64 ≤ (padB t).length := by
 have := z5o 64 (t ++ [128]) (by omega)
 simp only [padB, lenB, List.length_append, List.length_map, List.length_range, List.length_singleton] at this ⊢
 omega
theorem z1E (t : Bs) : (z2a t).length = 32 := z7a _ _
end Go.Proofs.YtfjbinbpgdiafaaGreatDoor.Pl
namespace Go.Proofs.YtfjbinbpgdiafaaGreatDoor.Pl
set_option linter.unusedVariables false
set_option linter.unusedSimpArgs false
set_option linter.unusedSectionVars false
theorem zae : ∀ (n : Nat) (t : Bs), (56 + 64 - t.length % 64) % 64 ≤ n → z0H n t = t ++ List.replicate ((56 + 64 - t.length % 64) % 64) 0
 | 0, t, h => by
   have h0 : (56 + 64 - t.length % 64) % 64 = 0 := by omega
   simp [z0H, h0]
 | n + 1, t, h => by
   simp only [z0H]
   split
   ·have h0 : (56 + 64 - t.length % 64) % 64 = 0 := by omega
    simp [h0]
   ·have e : (56 + 64 - t.length % 64) % 64 = (56 + 64 - (t ++ [0]).length % 64) % 64 + 1 := by simp; omega
    rw [zae n (t ++ [0]) (by omega), e, List.append_assoc, List.replicate_succ]
    rfl
def padI (t : Bs) : Bs := t ++ [128] ++ List.replicate ((119 - t.length % 64) % 64) 0 ++ lenB (8 * t.length) 8
theorem zfb (t : Bs) : padI t = padB t := by
 have e : (56 + 64 - (t ++ [128]).length % 64) % 64 = (119 - t.length % 64) % 64 := by simp; omega
 rw [padI, padB, zae 64 (t ++ [128]) (by omega), e]
def four (x : UInt32) : Bs := [UInt8.ofNat (shrN x 24).toNat, UInt8.ofNat (shrN x 16).toNat, UInt8.ofNat (shrN x 8).toNat, UInt8.ofNat x.toNat]
def outI (h : Nat → UInt32) (i : Nat) : Bs := (List.range i).flatMap fun j => four (h j)
theorem z8e (h : Nat → UInt32) (i : Nat) : outI h (i + 1) = outI h i ++ four (h i) := by simp [outI, List.range_succ]
theorem zaf (h : Nat → UInt32) : ∀ i, (outI h i).length = 4 * i
 | 0 => rfl
 | i + 1 => by rw [z8e, List.length_append, zaf h i]; simp [four]; omega
theorem zfc (h : Nat → UInt32) : outI h 8 = outB h 8 := by kernel_rfl
theorem zcs (x : UInt32) (n : Nat) : shlN x (32 - n) ||| shrN x n = z1Q x n := UInt32.or_comm _ _
theorem xor_comm (a b : UInt32) : a ^^^ b = b ^^^ a := UInt32.xor_comm _ _
def ixB (s : Bs) : Nat := ((z2a s).getD 0 0).toNat
theorem zeq (s : Bs) : ixB s < 256 := UInt8.toNat_lt _
end Go.Proofs.YtfjbinbpgdiafaaGreatDoor.Pl
namespace Go.Proofs.YtfjbinbpgdiafaaGreatDoor.Pl
set_option linter.unusedVariables false
set_option linter.unusedSimpArgs false
set_option linter.unusedSectionVars false
def tagB (k : Nat) (ps : List Bs) : Bs := UInt8.ofNat k :: ps.flatMap z0e
def cutB (t : Bs) (w : Nat) : Bs := (z2a t).take w
def z1t (k : Nat) (ps : List Bs) (w : Nat) : Bs := cutB (tagB k ps) w
theorem z32 {t : Bs} {w : Nat} (h : w ≤ 32) : (cutB t w).length = w := by rw [cutB, List.length_take, z1E]; omega
theorem z5u {k : Nat} {ps : List Bs} {w : Nat} (h : w ≤ 32) : (z1t k ps w).length = w := z32 h
def z1O (l : List Lf) : List Bs := l.flatMap fun x => [x.1, x.2]
def z0B (l : List Lf) : Bs := if l = [] then tagB 1 [] else tagB 2 (z1O l)
def emB (w : Nat) : Nat → Bs
 | 0 => z1t 1 [] w
 | d + 1 => z1t 3 [emB w d, emB w d] w
def atP (l : List Lf) (d p : Nat) : List Lf := l.filter fun x => decide (ixB x.1 / 2 ^ d = p)
def z0D (l : List Lf) (w : Nat) : Nat → Nat → Bs
 | 0, p => cutB (z0B (atP l 0 p)) w
 | d + 1, p => if atP l (d + 1) p = [] then emB w (d + 1) else z1t 3 [z0D l w d (2 * p), z0D l w d (2 * p + 1)] w
theorem z9a {w : Nat} (h : w ≤ 32) : ∀ d, (emB w d).length = w
 | 0 => z5u h
 | d + 1 => z5u h
theorem z2p {l : List Lf} {w : Nat} (h : w ≤ 32) : ∀ d p, (z0D l w d p).length = w
 | 0, p => z32 h
 | d + 1, p => by
   rw [z0D]
   split
   ·exact z9a h _
   ·exact z5u h
theorem div_up {a d p : Nat} : a / 2 ^ (d + 1) = p ↔ a / 2 ^ d = 2 * p ∨ a / 2 ^ d = 2 * p + 1 := by
 rw [Nat.pow_succ, ← Nat.div_div_eq_div_mul]; omega
theorem z5v {l : List Lf} {d p q : Nat} (h : q = 2 * p ∨ q = 2 * p + 1) : atP (atP l (d + 1) p) d q = atP l d q := by
 unfold atP
 rw [List.filter_filter]
 apply List.filter_congr
 intro x _
 by_cases h1 : ixB x.1 / 2 ^ d = q
 ·have : ixB x.1 / 2 ^ (d + 1) = p := div_up.2 (by omega)
  simp [h1, this]
 ·simp [h1]
theorem z3p {w : Nat} : ∀ (d : Nat) {l m : List Lf} {p : Nat}, atP l d p = atP m d p → z0D l w d p = z0D m w d p
 | 0, l, m, p, h => by rw [z0D, z0D, h]
 | d + 1, l, m, p, h => by
   have h1 : atP l d (2 * p) = atP m d (2 * p) := by rw [← z5v (l := l) (.inl rfl), ← z5v (l := m) (.inl rfl), h]
   have h2 : atP l d (2 * p + 1) = atP m d (2 * p + 1) := by rw [← z5v (l := l) (.inr rfl), ← z5v (l := m) (.inr rfl), h]
   rw [z0D, z0D, h, z3p d h1, z3p d h2]
theorem z5w (l : List Lf) (w d p : Nat) {q : Nat} (h : q = 2 * p ∨ q = 2 * p + 1) : z0D (atP l (d + 1) p) w d q = z0D l w d q := z3p d (by
 rw [z5v h])
theorem z9b {w : Nat} : ∀ (d : Nat) {l : List Lf} {p : Nat}, atP l d p = [] → z0D l w d p = emB w d
 | 0, l, p, h => by rw [z0D, h]; rfl
 | d + 1, l, p, h => by rw [z0D, if_pos h]
def bitB (ix j : Nat) : Nat := ix / 2 ^ j % 2
def zbf (ix j : Nat) (h s : Bs) : List Bs := if bitB ix j = 1 then [s, h] else [h, s]
def z9c (ix w : Nat) : Nat → Bs → List Bs → List Bs × Bs
 | _, h, [] => ([], h)
 | j, h, s :: ss =>
   let t := tagB 3 (zbf ix j h s)
   (t :: (z9c ix w (j + 1) (cutB t w) ss).1, (z9c ix w (j + 1) (cutB t w) ss).2)
end Go.Proofs.YtfjbinbpgdiafaaGreatDoor.Pl
namespace Go.Proofs.YtfjbinbpgdiafaaGreatDoor.Pl
set_option linter.unusedVariables false
set_option linter.unusedSimpArgs false
set_option linter.unusedSectionVars false
abbrev Ch := Int × Bs × Bs
def zbi (l : List Lf) (n : Bs) : Bs × Bool := ((z0W l n).getD [], (z0W l n).isSome)
end Go.Proofs.YtfjbinbpgdiafaaGreatDoor.Pl
