/- Plain: the checksum. Plain: what is read is what was written, and the other way round. Plain: letters. Plain: entries. Entries, no program in sight: both readers agree. Plain: an entry is looked up, put, dropped. Plain: what holds of an entry that is put, and of one that is dropped; entries are read as they were written. Plain: proofs are read as they were written, by the program and by the reference alike. Plain: words of 32 bits, and the digest as the reference reckons it. Plain: the digest as the program reckons it is the reference's. Plain: the tree of hashes, and the way up from a bucket to the root. Plain: changes are applied one by one; the last change of a name counts. -/
import Derived.Test.YtbcgmjdfnjmhoaaGreatDoorPlain
import Derived.Laws.BitsAllLaws
import Derived.KernelRfl
namespace Go.Proofs.YtbcgmjdfnjmhoaaGreatDoor.Pl
set_option linter.unusedVariables false
set_option linter.unusedSimpArgs false
set_option linter.unusedSectionVars false
def z7Y (s : Nat) : Nat := if s % 2 = 1 then (s / 2) ^^^ 3558460437 else s / 2
def z3p : Nat → Nat → Nat
 | 0, s => s
 | n + 1, s => z7Y (z3p n s)
def z1H (s : Nat) (l : Bs) : Nat := l.foldl (fun s b => z3p 8 (s ^^^ b.toNat)) s
def z2l (l : Bs) : Nat := z1H 4294967295 l
theorem z5E {a b : Nat} (ha : (a : Int) ≤ 4294967295) (hb : (b : Int) ≤ 4294967295) : ((a ^^^ b : Nat) : Int) ≤ 4294967295 := by
 have : a ^^^ b < 2 ^ 32 := Nat.xor_lt_two_pow (by omega) (by omega)
 omega
theorem zcJ {a : Nat} (ha : (a : Int) ≤ 4294967295) : ((z7Y a : Nat) : Int) ≤ 4294967295 := by
 unfold z7Y; split
 ·exact z5E (by omega) (by omega)
 ·omega
theorem z91 {a : Nat} (ha : (a : Int) ≤ 4294967295) : ∀ n, ((z3p n a : Nat) : Int) ≤ 4294967295
 | 0 => ha
 | n + 1 => zcJ (z91 ha n)
theorem z3V (s : Nat) (l : Bs) (b : UInt8) : z1H s (l ++ [b]) = z3p 8 (z1H s l ^^^ b.toNat) := by simp [z1H]
theorem z9T {s : Nat} (hs : (s : Int) ≤ 4294967295) : ∀ l : Bs, ((z1H s l : Nat) : Int) ≤ 4294967295 := by
 intro l
 unfold z1H
 induction l generalizing s with
 | nil => exact hs
 | cons b l ih =>
   rw [List.foldl_cons]
   refine ih (z91 (z5E hs ?_) 8)
   have := b.toNat_lt; omega
theorem z92 (l : Bs) : ((z2l l : Nat) : Int) ≤ 4294967295 := z9T (by omega) l
theorem z3W (s : ByteArray) (k : Nat) (h : k < s.size) : ∃ b : UInt8, b.toNat = nb s k ∧ s.data.toList.take (k + 1) = s.data.toList.take k ++ [b] := by
 obtain ⟨b, hb, hd⟩ := z7C s k h
 refine ⟨b, hb, ?_⟩
 rw [List.take_add, hd]; rfl
theorem xr32 {a b : Nat} (ha : (a : Int) ≤ 4294967295) (hb : (b : Int) ≤ 4294967295) : bits .xor .u32 (a : Int) (b : Int) = ((a ^^^ b : Nat) : Int) := u32_xor_nat a b (by omega) (by omega)
theorem z6Z {a : Nat} (ha : (a : Int) ≤ 4294967295) : bits .xor .u32 ((a : Int) / 2) 3558460437 = (((a / 2) ^^^ 3558460437 : Nat) : Int) := by
 have := xr32 (a := a / 2) (b := 3558460437) (by omega) (by omega)
 rw [← this]
 congr 1
theorem z93 {y : Nat} (hy : (y : Int) ≤ 4294967295) : bits .and .u32 (y : Int) 1 = ((y % 2 : Nat) : Int) := by
 have := u32_and_nat y 1 (by omega) (by omega)
 rw [← nat_mask1, ← this]; rfl
def z2e (x : Nat) : Bs := [UInt8.ofNat (x / 16777216), UInt8.ofNat (x / 65536), UInt8.ofNat (x / 256), UInt8.ofNat x]
theorem zb9 (x : Nat) : (z2e x).length = 4 := rfl
end Go.Proofs.YtbcgmjdfnjmhoaaGreatDoor.Pl
namespace Go.Proofs.YtbcgmjdfnjmhoaaGreatDoor.Pl
set_option linter.unusedVariables false
set_option linter.unusedSimpArgs false
set_option linter.unusedSectionVars false
theorem z94 : ∀ (f k n : Nat) (r : Bs) (m c : Nat), rvGo f k n r = some (m, c) →
 ∃ (ds : Bs) (x : UInt8) (r' : Bs), r = ds ++ x :: r' ∧ (∀ d ∈ ds, 128 ≤ d.toNat) ∧ x.toNat < 128 ∧ c = k + ds.length + 1 ∧ m = n + val (ds ++ [x]) * 128 ^ k ∧ (x.toNat ≠ 0 ∨ (ds = [] ∧ k = 0))
 | 0, _, _, _, _, _, h => by cases h
 | _ + 1, _, _, [], _, _, h => by cases h
 | f + 1, k, n, x :: r, m, c, h => by
   rw [rvGo] at h
   split at h
   ·rename_i hx
    split at h
    ·cases h
    ·rename_i hb
     injection h with h; injection h with h1 h2
     refine ⟨[], x, r, rfl, by simp, hx, by simp; omega, ?_, ?_⟩
     ·have : val ([] ++ [x]) = x.toNat := by simp [val]; omega
      rw [this, z5Q, h1]
     ·by_cases h0 : x.toNat = 0
      ·right; refine ⟨rfl, ?_⟩; omega
      ·exact .inl h0
   ·rename_i hx
    obtain ⟨ds, y, r', e, hd, hy, hc, hm, hz⟩ := z94 f (k + 1) _ r m c h
    refine ⟨x :: ds, y, r', by rw [e]; rfl, ?_, hy, by rw [List.length_cons]; omega, ?_, ?_⟩
    ·intro d hd'
     rcases List.mem_cons.1 hd' with rfl | hd'
     ·omega
     ·exact hd d hd'
    ·rw [hm, List.cons_append, val, ← z5Q, Nat.pow_succ]
     have e1 : val (ds ++ [y]) * (128 ^ k * 128) = 128 * val (ds ++ [y]) * 128 ^ k := by rw [Nat.mul_comm (128 ^ k) 128, ← Nat.mul_assoc, Nat.mul_comm (val _) 128]
     rw [e1, Nat.add_mul, Nat.add_assoc]
    ·rcases hz with hz | ⟨_, hz⟩
     ·exact .inl hz
     ·omega
theorem z32 {t : Bs} {p n q : Nat} (h : z0o t p = some (n, q)) : t.drop p = z0h n ++ t.drop q ∧ q = p + (z0h n).length := by
 have hb := z0x h
 unfold z0o at h
 rcases hg : rvGo 5 0 0 (t.drop p) with _ | ⟨m, c⟩
 ·rw [hg] at h; cases h
 ·rw [hg] at h
  simp at h
  obtain ⟨rfl, rfl⟩ := h
  obtain ⟨ds, x, r', e, hd, hx, hc, hm, hz⟩ := z94 _ _ _ _ _ _ hg
  simp at hm hc
  have hv : z0h m = ds ++ [x] := by
   rw [hm]
   refine (z2R x hx ds hd).2 ?_
   rcases hz with hz | ⟨hz, _⟩
   ·exact .inl hz
   ·exact .inr hz
  have hl : (z0h m).length = c := by rw [hv]; simp; omega
  refine ⟨?_, by rw [hl]⟩
  rw [← List.drop_drop, e, hv]
  have : (ds ++ x :: r').drop c = r' := by
   rw [hc]
   have e2 : ds ++ x :: r' = (ds ++ [x]) ++ r' := by simp
   rw [e2]
   have : ds.length + 1 = (ds ++ [x]).length := by simp
   rw [this, List.drop_left]
  rw [this]; simp
theorem z6g {t : Bs} {p q : Nat} {l : Bs} (h : z0d t p = some (l, q)) : t.drop p = z1j l ++ t.drop q ∧ q = p + (z1j l).length := by
 unfold z0d at h
 rcases hr : z0o t p with _ | ⟨n, c⟩
 ·rw [hr] at h; cases h
 ·have hb := z0x hr
  obtain ⟨e1, e2⟩ := z32 hr
  rw [hr] at h
  simp only at h
  split at h
  ·rename_i hc
   injection h with h; injection h with h1 h2; subst h1; subst h2
   have hl : ((t.drop c).take n).length = n := by simp; omega
   refine ⟨?_, by rw [z1j, List.length_append, hl]; omega⟩
   rw [z1j, hl, e1, List.append_assoc, ← List.drop_drop, List.take_append_drop]
  ·cases h
def numS (t : Bs) (p : Nat) (bad : Bool) : Nat × Nat × Bool := if bad = true then (0, p, true) else z0R t p false
def z19 (t : Bs) (p : Nat) (bad : Bool) : Bs × Nat × Bool := if bad = true then ([], p, true) else z0C t p false
theorem z3q (t : Bs) (p : Nat) : (z0R t p true).2.2 = true := by unfold z0R; split <;> rfl
theorem z33 (t : Bs) (p : Nat) : (z0C t p true).2.2 = true := by unfold z0C; split <;> rfl
theorem zba (t : Bs) (p : Nat) : numS t p false = z0R t p false := rfl
theorem z4L (t : Bs) (p : Nat) : z19 t p false = z0C t p false := rfl
theorem zbb {t : Bs} {p n q : Nat} {b : Bool} (h : z0R t p b = (n, q, false)) : b = false ∧ n ≤ 1000000000 ∧ t.drop p = z0h n ++ t.drop q ∧ q = p + (z0h n).length := by
 unfold z0R at h
 rcases hr : z0o t p with _ | ⟨m, c⟩
 ·rw [hr] at h; simp at h
 ·rw [hr] at h
  simp at h
  obtain ⟨rfl, rfl, rfl⟩ := h
  exact ⟨rfl, (z0x hr).2.2.2, z32 hr⟩
theorem z4M {t : Bs} {p q : Nat} {l : Bs} {b : Bool} (h : z0C t p b = (l, q, false)) : b = false ∧ l.length ≤ 20000 ∧ t.drop p = z1j l ++ t.drop q ∧ q = p + (z1j l).length := by
 unfold z0C at h
 rcases hr : z0d t p with _ | ⟨m, c⟩
 ·rw [hr] at h; simp at h
 ·rw [hr] at h
  simp at h
  obtain ⟨rfl, rfl, rfl⟩ := h
  exact ⟨rfl, (z2h hr).2.2, z6g hr⟩
theorem zbc {t : Bs} {p : Nat} {bad : Bool} (hp : p ≤ t.length) : (numS t p bad).2.1 ≤ t.length ∧ (numS t p bad).1 ≤ 1000000000 := by
 unfold numS; split
 ·exact ⟨hp, by simp⟩
 ·exact z2C hp
theorem z70 {t : Bs} {p : Nat} {bad : Bool} (hp : p ≤ t.length) : (z19 t p bad).2.1 ≤ t.length ∧ (z19 t p bad).1.length ≤ 20000 := by
 unfold z19; split
 ·exact ⟨hp, by simp⟩
 ·exact z3B hp
end Go.Proofs.YtbcgmjdfnjmhoaaGreatDoor.Pl
namespace Go.Proofs.YtbcgmjdfnjmhoaaGreatDoor.Pl
set_option linter.unusedVariables false
set_option linter.unusedSimpArgs false
set_option linter.unusedSectionVars false
def inB (n lo hi : Int) : Bool := decide (lo ≤ n) && decide (n ≤ hi)
theorem z2v {n lo hi : Int} : inB n lo hi = true ↔ lo ≤ n ∧ n ≤ hi := by simp [inB]
abbrev Lt := Nat × Nat × Nat × Nat × Nat × Bs
end Go.Proofs.YtbcgmjdfnjmhoaaGreatDoor.Pl
namespace Go.Proofs.YtbcgmjdfnjmhoaaGreatDoor.Pl
set_option linter.unusedVariables false
set_option linter.unusedSimpArgs false
set_option linter.unusedSectionVars false
abbrev Lf := Bs × Bs
def ltB (a b : Bs) : Bool := Op.bytesLess a b
def lfAt (l : List Lf) (i : Nat) : Lf := l.getD i ([], [])
def z1q (l : List Lf) (i : Nat) : Bool := z13 (lfAt l i).1 && z0M (lfAt l i).2 && (i == 0 || ltB (lfAt l (i - 1)).1 (lfAt l i).1)
def z04 (l : List Lf) : Bool := decide (l.length ≤ 24) && (List.range l.length).all (z1q l)
theorem z3X {l : List Lf} {k : Nat} (hk : k < l.length) (h : z1q l k = false) : z04 l = false := by
 have : (List.range l.length).all (z1q l) = false := by
  rw [List.all_eq_false]
  exact ⟨k, List.mem_range.2 hk, by simp [h]⟩
 rw [z04, this, Bool.and_false]
theorem z3r {l : List Lf} (h : 24 < l.length) : z04 l = false := by
 have : decide (l.length ≤ 24) = false := by simp; omega
 rw [z04, this, Bool.false_and]
theorem z2f {l : List Lf} (hl : l.length ≤ 24) (h : ∀ k, k < l.length → z1q l k = true) : z04 l = true := by
 have h1 : decide (l.length ≤ 24) = true := by simpa using hl
 have h2 : (List.range l.length).all (z1q l) = true := List.all_eq_true.2 fun k hk => h k (List.mem_range.1 hk)
 rw [z04, h1, h2]; rfl
theorem z3Y {l : List Lf} : z04 l = true ↔ l.length ≤ 24 ∧ ∀ k, k < l.length → z1q l k = true := by
 constructor
 ·intro h
  rw [z04, Bool.and_eq_true, decide_eq_true_iff, List.all_eq_true] at h
  exact ⟨h.1, fun k hk => h.2 k (List.mem_range.2 hk)⟩
 ·rintro ⟨h1, h2⟩; exact z2f h1 h2
def decG (k : Nat) (out : Bs) : Bs := if k = 0 then out else decG (k / 10) (UInt8.ofNat (48 + k % 10) :: out)
termination_by k
decreasing_by omega
theorem z71 (out : Bs) : decG 0 out = out := by rw [decG, if_pos rfl]
theorem z72 {k : Nat} (h : k ≠ 0) (out : Bs) : decG k out = decG (k / 10) (UInt8.ofNat (48 + k % 10) :: out) := by rw [decG, if_neg h]
def z0k (k : Nat) : Bs := if k = 0 then [109, 48] else 109 :: decG k []
abbrev Sh := Nat → Bool → Bs × Nat × Bool
def z3Z (sh : Sh) : Nat → Nat → Bool → List Lf × Nat × Bool
 | 0, p, b => ([], p, b)
 | _ + 1, p, true => ([], p, true)
 | n + 1, p, false => (((sh p false).1, (sh (sh p false).2.1 (sh p false).2.2).1) :: (z3Z sh n (sh (sh p false).2.1 (sh p false).2.2).2.1 (sh (sh p false).2.1 (sh p false).2.2).2.2).1,
     (z3Z sh n (sh (sh p false).2.1 (sh p false).2.2).2.1 (sh (sh p false).2.1 (sh p false).2.2).2.2).2)
def LvAt (sh : Sh) (R : List Lf × Nat × Bool) (n : Nat) (l : List Lf) (q : Nat) (b : Bool) : Prop := R = (l ++ (z3Z sh n q b).1, (z3Z sh n q b).2)
theorem LvAt.start (sh : Sh) (n q : Nat) (b : Bool) : LvAt sh (z3Z sh n q b) n [] q b := rfl
theorem LvAt.step {sh : Sh} {R : List Lf × Nat × Bool} {n q q1 q2 : Nat} {l : List Lf} {a v : Bs} {b1 b2 : Bool} (h : LvAt sh R (n + 1) l q false) (h1 : sh q false = (a, q1, b1)) (h2 : sh q1 b1 = (v, q2, b2)) : LvAt sh R n (l ++ [(a, v)]) q2 b2 := by
 unfold LvAt at h ⊢
 rw [h, z3Z, h1]
 simp only [h2]
 simp
theorem LvAt.done {sh : Sh} {R : List Lf × Nat × Bool} {q : Nat} {l : List Lf} {b : Bool} (h : LvAt sh R 0 l q b) : R = (l, q, b) := by
 unfold LvAt at h; rw [h, z3Z]; simp
theorem LvAt.bad {sh : Sh} {R : List Lf × Nat × Bool} {n q : Nat} {l : List Lf} (h : LvAt sh R n l q true) : R = (l, q, true) := by
 unfold LvAt at h; rw [h]
 cases n <;> simp [z3Z]
end Go.Proofs.YtbcgmjdfnjmhoaaGreatDoor.Pl
namespace Go.Proofs.YtbcgmjdfnjmhoaaGreatDoor.Pl
set_option linter.unusedVariables false
set_option linter.unusedSimpArgs false
set_option linter.unusedSectionVars false
end Go.Proofs.YtbcgmjdfnjmhoaaGreatDoor.Pl
namespace Go.Proofs.YtbcgmjdfnjmhoaaGreatDoor.Pl
set_option linter.unusedVariables false
set_option linter.unusedSimpArgs false
set_option linter.unusedSectionVars false
def z0Z (l : List Lf) (n : Bs) : Option Bs := (l.find? fun x => x.1 == n).map (·.2)
def z0z (l : List Lf) (n : Bs) : List Lf := l.filter fun x => x.1 != n
theorem z73 {l : List Lf} {k : Nat} (h : k < l.length) : lfAt l k = l[k] := by simp [lfAt, List.getD, List.getElem?_eq_getElem h]
theorem z3s (l : List Lf) (k : Nat) (h : k < l.length) : l.take (k + 1) = l.take k ++ [lfAt l k] := by
 rw [List.take_add_one, List.getElem?_eq_getElem h, z73 h]; rfl
theorem z95 {l : List Lf} {k : Nat} {n : Bs} (h : k < l.length) (hx : z0Z (l.take k) n = none) (hne : (lfAt l k).1 ≠ n) : z0Z (l.take (k + 1)) n = none := by
 rw [z3s l k h]
 simp only [z0Z, Option.map_eq_none_iff] at hx ⊢
 rw [List.find?_append, hx]
 simp [hne]
theorem z96 {l : List Lf} {k : Nat} {n : Bs} (h : k < l.length) (hx : z0Z (l.take k) n = none) (he : (lfAt l k).1 = n) : z0Z l n = some (lfAt l k).2 := by
 have e : z0Z l n = z0Z (l.take (k + 1) ++ l.drop (k + 1)) n := by rw [List.take_append_drop]
 rw [e, z3s l k h]
 simp only [z0Z, Option.map_eq_none_iff] at hx ⊢
 rw [List.find?_append, List.find?_append, hx]
 simp [he]
theorem z34 {f : Lf → Bool} {l : List Lf} {k : Nat} (h : k < l.length) : (l.take (k + 1)).filter f = (l.take k).filter f ++ (if f (lfAt l k) = true then [lfAt l k] else []) := by
 rw [z3s l k h, List.filter_append]
 congr 1
 cases hf : f (lfAt l k) <;> simp [hf]
theorem z2w {l : List Lf} {k : Nat} {n : Bs} (h : k < l.length) : z0z (l.take (k + 1)) n = z0z (l.take k) n ++ (if (lfAt l k).1 = n then [] else [lfAt l k]) := by
 unfold z0z
 rw [z34 h]
 by_cases he : (lfAt l k).1 = n <;> simp [he]
def lowL (l : List Lf) (n : Bs) : List Lf := l.filter fun x => ltB x.1 n
def z35 (l : List Lf) (n : Bs) : List Lf := l.filter fun x => !(ltB x.1 n || decide (x.1 = n))
def putL (l : List Lf) (n v : Bs) : List Lf := lowL (z0z l n) n ++ [(n, v)] ++ z35 (z0z l n) n
def putR (l : List Lf) (n v : Bs) : List Lf × Bool := bif z04 l && z04 (putL l n v) then (putL l n v, true) else (l, false)
def insS (n v : Bs) (s : List Lf × Bool) (x : Lf) : List Lf × Bool :=
 ((bif !s.2 && !ltB x.1 n then s.1 ++ [(n, v)] else s.1) ++ (if x.1 = n then [] else [x]), s.2 || !ltB x.1 n)
def insF (l : List Lf) (n v : Bs) : List Lf × Bool := l.foldl (insS n v) ([], false)
def insL (l : List Lf) (n v : Bs) : List Lf := bif (insF l n v).2 then (insF l n v).1 else (insF l n v).1 ++ [(n, v)]
def insR (l : List Lf) (n v : Bs) : List Lf × Bool := bif z04 l && z04 (insL l n v) then (insL l n v, true) else (l, false)
theorem zbd {l : List Lf} {k : Nat} {n v : Bs} (h : k < l.length) : insF (l.take (k + 1)) n v = insS n v (insF (l.take k) n v) (lfAt l k) := by
 rw [z3s l k h]; simp [insF]
theorem z97 (n v : Bs) : ∀ (l : List Lf) (k : Nat), (insF (l.take k) n v).1.length ≤ 2 * k := by
 have : ∀ (l : List Lf) (s : List Lf × Bool), (l.foldl (insS n v) s).1.length ≤ s.1.length + 2 * l.length := by
  intro l
  induction l with
  | nil => intro s; simp
  | cons x l ih =>
    intro s
    have := ih (insS n v s x)
    have h2 : (insS n v s x).1.length ≤ s.1.length + 2 := by
     simp only [insS, List.length_append]
     have a : (bif !s.2 && !ltB x.1 n then s.1 ++ [(n, v)] else s.1).length ≤ s.1.length + 1 := by
      cases (!s.2 && !ltB x.1 n) <;> simp
     have b : (if x.1 = n then ([] : List Lf) else [x]).length ≤ 1 := by split <;> simp
     omega
    simp only [List.foldl_cons, List.length_cons]
    omega
 intro l k
 have h := this (l.take k) ([], false)
 simp only [List.length_nil, Nat.zero_add, List.length_take] at h
 have : min k l.length ≤ k := Nat.min_le_left _ _
 unfold insF
 omega
def z36 (l : List Lf) (n : Bs) : List Lf × Bool := bif (z0Z l n).isSome && z04 l then (z0z l n, true) else (l, false)
theorem zbe {l : List Lf} {k : Nat} {n : Bs} (h : k < l.length) : lowL (l.take (k + 1)) n = lowL (l.take k) n ++ (if ltB (lfAt l k).1 n = true then [lfAt l k] else []) := z34 h
theorem z9U {l : List Lf} {k : Nat} {n : Bs} (h : k < l.length) : z35 (l.take (k + 1)) n = z35 (l.take k) n ++ (if (!(ltB (lfAt l k).1 n || decide ((lfAt l k).1 = n))) = true then [lfAt l k] else []) := z34 h
end Go.Proofs.YtbcgmjdfnjmhoaaGreatDoor.Pl
namespace Go.Proofs.YtbcgmjdfnjmhoaaGreatDoor.Pl
set_option linter.unusedVariables false
set_option linter.unusedSimpArgs false
set_option linter.unusedSectionVars false
theorem zdC (a : Bs) : ltB a [] = false := by cases a <;> rfl
theorem zbf (a b : UInt8) (x y : Bs) : ltB (a :: x) (b :: y) = (decide (a < b) || (a == b && ltB x y)) := rfl
theorem lt_irrefl : ∀ a : Bs, ltB a a = false
 | [] => rfl
 | a :: x => by rw [zbf, lt_irrefl x]; simp
theorem lt_trans : ∀ {a b c : Bs}, ltB a b = true → ltB b c = true → ltB a c = true
 | _, [], _, h, _ => by rw [zdC] at h; cases h
 | _, _, [], _, h => by rw [zdC] at h; cases h
 | [], _ :: _, _ :: _, _, _ => rfl
 | a :: x, b :: y, c :: z, h, k => by
   rw [zbf] at h k ⊢
   simp only [Bool.or_eq_true, decide_eq_true_eq, Bool.and_eq_true, beq_iff_eq] at h k ⊢
   rcases h with h | ⟨rfl, h⟩
   ·rcases k with k | ⟨rfl, k⟩
    ·exact .inl (UInt8.lt_trans h k)
    ·exact .inl h
   ·rcases k with k | ⟨rfl, k⟩
    ·exact .inl k
    ·exact .inr ⟨rfl, lt_trans h k⟩
def Sorted (l : List Lf) : Prop := l.Pairwise fun a b => ltB a.1 b.1 = true
theorem z1D {l : List Lf} (h : z04 l = true) : l.length ≤ 24 ∧ (∀ x ∈ l, z13 x.1 = true ∧ z0M x.2 = true) ∧ Sorted l := by
 obtain ⟨h1, h2⟩ := z3Y.1 h
 have st : ∀ k (hk : k < l.length), z13 l[k].1 = true ∧ z0M l[k].2 = true ∧ (k = 0 ∨ ltB (lfAt l (k - 1)).1 l[k].1 = true) := fun k hk => by
  have := h2 k hk
  rw [z1q, z73 hk] at this
  simpa [and_assoc] using this
 refine ⟨h1, fun x hx => ?_, ?_⟩
 ·obtain ⟨k, hk, rfl⟩ := List.getElem_of_mem hx
  exact ⟨(st k hk).1, (st k hk).2.1⟩
 ·rw [Sorted, List.pairwise_iff_getElem]
  intro i j hi hj hij
  have key : ∀ d, (h : i + d + 1 < l.length) → ltB l[i].1 l[i + d + 1].1 = true := by
   intro d
   induction d with
   | zero =>
     intro h
     have := ((st (i + 1) h).2.2).resolve_left (by omega)
     rwa [Nat.add_sub_cancel, z73 hi] at this
   | succ d ih =>
     intro h
     have a := ih (by omega)
     have b := ((st (i + (d + 1) + 1) h).2.2).resolve_left (by omega)
     rw [Nat.add_sub_cancel, z73 (show i + (d + 1) < l.length by omega)] at b
     exact lt_trans a b
  have := key (j - i - 1) (by omega)
  simpa [show i + (j - i - 1) + 1 = j by omega] using this
theorem zbg {l : List Lf} (h1 : l.length ≤ 24) (h2 : ∀ x ∈ l, z13 x.1 = true ∧ z0M x.2 = true) (h3 : Sorted l) : z04 l = true := by
 refine z3Y.2 ⟨h1, fun k hk => ?_⟩
 rw [z1q, z73 hk, (h2 _ (List.getElem_mem hk)).1, (h2 _ (List.getElem_mem hk)).2]
 cases k with
 | zero => rfl
 | succ k =>
   rw [Nat.add_sub_cancel, z73 (show k < l.length by omega)]
   have := (List.pairwise_iff_getElem.1 h3) k (k + 1) (by omega) hk (by omega)
   rw [this]; rfl
theorem Sorted.filter {l : List Lf} (h : Sorted l) (f : Lf → Bool) : Sorted (l.filter f) := List.Pairwise.filter _ h
theorem z2g {l : List Lf} {n : Bs} {x : Lf} : x ∈ z0z l n ↔ x ∈ l ∧ x.1 ≠ n := by simp [z0z]
theorem zee {l : List Lf} {n : Bs} {x : Lf} : x ∈ lowL l n ↔ x ∈ l ∧ ltB x.1 n = true := by simp [lowL]
theorem zcK {l : List Lf} {n : Bs} {x : Lf} : x ∈ z35 l n ↔ x ∈ l ∧ ltB x.1 n = false ∧ x.1 ≠ n := by simp [z35]
theorem zef {l : List Lf} {n v : Bs} {x : Lf} : x ∈ putL l n v ↔ x = (n, v) ∨ (x ∈ l ∧ x.1 ≠ n) := by
 rw [putL, List.mem_append, List.mem_append, zee, zcK, z2g, List.mem_singleton]
 constructor
 ·rintro ((h | h) | h)
  ·exact .inr h.1
  ·exact .inl h
  ·exact .inr h.1
 ·rintro (h | h)
  ·exact .inl (.inr h)
  ·cases hl : ltB x.1 n
   ·exact .inr ⟨h, rfl, h.2⟩
   ·exact .inl (.inl ⟨h, rfl⟩)
theorem z74 {n v : Bs} : ∀ {l acc : List Lf}, l.foldl (insS n v) (acc, true) = (acc ++ z0z l n, true)
 | [], acc => by simp [z0z]
 | x :: l, acc => by
   rw [List.foldl_cons]
   have e : insS n v (acc, true) x = (acc ++ (if x.1 = n then [] else [x]), true) := by simp [insS]
   rw [e, z74]
   by_cases h : x.1 = n <;> simp [z0z, h]
theorem z5F {n v : Bs} : ∀ {l acc : List Lf}, Sorted l → (bif (l.foldl (insS n v) (acc, false)).2 then (l.foldl (insS n v) (acc, false)).1 else (l.foldl (insS n v) (acc, false)).1 ++ [(n, v)]) = acc ++ putL l n v
 | [], acc, _ => by simp [putL, z0z, lowL, z35]
 | x :: l, acc, h => by
   obtain ⟨h1, h2⟩ := List.pairwise_cons.1 h
   rw [List.foldl_cons]
   cases hx : ltB x.1 n
   ·have e : insS n v (acc, false) x = (acc ++ [(n, v)] ++ (if x.1 = n then [] else [x]), true) := by simp [insS, hx]
    rw [e, z74]
    have hge : ∀ y ∈ z0z (x :: l) n, ltB y.1 n = false := fun y hy => by
     rcases List.mem_cons.1 (z2g.1 hy).1 with rfl | hm
     ·exact hx
     ·cases hc : ltB y.1 n
      ·rfl
      ·rw [lt_trans (h1 y hm) hc] at hx; cases hx
    have hne : ∀ y ∈ z0z (x :: l) n, y.1 ≠ n := fun y hy => (z2g.1 hy).2
    have elow : lowL (z0z (x :: l) n) n = [] := by
     rw [lowL, List.filter_eq_nil_iff]
     intro y hy; rw [hge y hy]; simp
    have ehigh : z35 (z0z (x :: l) n) n = z0z (x :: l) n := by
     rw [z35, List.filter_eq_self]
     intro y hy; rw [hge y hy]; simp [hne y hy]
    rw [putL, elow, ehigh, cond_true]
    by_cases he : x.1 = n <;> simp [z0z, he]
   ·have hne : x.1 ≠ n := fun e => by rw [e, lt_irrefl] at hx; cases hx
    have e : insS n v (acc, false) x = (acc ++ [x], false) := by simp [insS, hx, hne]
    rw [e, z5F (l := l) h2]
    have e2 : putL (x :: l) n v = x :: putL l n v := by simp [putL, z0z, lowL, z35, hx, hne]
    rw [e2]; simp
theorem zbh {l : List Lf} {n v : Bs} (h : Sorted l) : insL l n v = putL l n v := by
 have := z5F (n := n) (v := v) (acc := []) h
 rw [List.nil_append] at this
 exact this
theorem z9V {l : List Lf} {n : Bs} (h : z04 l = true) : z04 (z0z l n) = true := by
 obtain ⟨h1, h2, h3⟩ := z1D h
 exact zbg (Nat.le_trans (List.length_filter_le _ _) h1) (fun x hx => h2 x (z2g.1 hx).1) (h3.filter _)
theorem z1h {s : Bs} (h : z13 s = true) : s.length ≤ 12 := by
 simp [z13, allN] at h; exact h.1.2
theorem z1w {s : Bs} (h : z0M s = true) : s.length ≤ 12 := by
 simp [z0M, allN] at h; exact h.1.2
end Go.Proofs.YtbcgmjdfnjmhoaaGreatDoor.Pl
namespace Go.Proofs.YtbcgmjdfnjmhoaaGreatDoor.Pl
set_option linter.unusedVariables false
set_option linter.unusedSimpArgs false
set_option linter.unusedSectionVars false
end Go.Proofs.YtbcgmjdfnjmhoaaGreatDoor.Pl
namespace Go.Proofs.YtbcgmjdfnjmhoaaGreatDoor.Pl
set_option linter.unusedVariables false
set_option linter.unusedSimpArgs false
set_option linter.unusedSectionVars false
def shlN (x : UInt32) (n : Nat) : UInt32 := UInt32.ofNat (x.toNat * 2 ^ n)
def shrN (x : UInt32) (n : Nat) : UInt32 := UInt32.ofNat (x.toNat / 2 ^ n)
def o8 (b : UInt8) : UInt32 := UInt32.ofNat b.toNat
def z1I (x : UInt32) (n : Nat) : UInt32 := shrN x n ||| shlN x (32 - n)
def zcU (b : Bs) (i : Nat) : UInt32 := shlN (o8 (b.getD (4 * i) 0)) 24 ||| shlN (o8 (b.getD (4 * i + 1) 0)) 16 ||| shlN (o8 (b.getD (4 * i + 2) 0)) 8 ||| o8 (b.getD (4 * i + 3) 0)
def upd (f : Nat → UInt32) (i : Nat) (x : UInt32) : Nat → UInt32 := fun j => bif Nat.beq j i then x else f j
def z2j (b : Bs) (i : Nat) : Nat → UInt32 := (List.range i).foldl (fun ws k => upd ws k (zcU b k)) (fun _ => 0)
def z3v (ws : Nat → UInt32) (i : Nat) : Nat → UInt32 :=
 upd ws i (ws (i - 16) + (z1I (ws (i - 15)) 7 ^^^ z1I (ws (i - 15)) 18 ^^^ shrN (ws (i - 15)) 3) + ws (i - 7) + (z1I (ws (i - 2)) 17 ^^^ z1I (ws (i - 2)) 19 ^^^ shrN (ws (i - 2)) 10))
def z28 (ws : Nat → UInt32) (i : Nat) : Nat → UInt32 := (List.range (i - 16)).foldl (fun ws k => z3v ws (k + 16)) ws
structure W8 where
 a : UInt32
 b : UInt32
 c : UInt32
 d : UInt32
 e : UInt32
 f : UInt32
 g : UInt32
 h : UInt32
def W8.list (s : W8) : List UInt32 := [s.a, s.b, s.c, s.d, s.e, s.f, s.g, s.h]
def rnd (s : W8) (k w : UInt32) : W8 :=
 let one := s.h + (z1I s.e 6 ^^^ z1I s.e 11 ^^^ z1I s.e 25) + (s.e &&& s.f ^^^ (s.e ^^^ 4294967295) &&& s.g) + k + w
 let two := (z1I s.a 2 ^^^ z1I s.a 13 ^^^ z1I s.a 22) + (s.a &&& s.b ^^^ s.a &&& s.c ^^^ s.b &&& s.c)
 ⟨one + two, s.a, s.b, s.c, s.d + one, s.e, s.f, s.g⟩
def rnds (s : W8) (ks ws : Nat → UInt32) (i : Nat) : W8 := (List.range i).foldl (fun s j => rnd s (ks j) (ws j)) s
def addW (h s : Nat → UInt32) (i : Nat) : Nat → UInt32 := (List.range i).foldl (fun l j => upd l j (l j + s j)) h
def W8.fn (s : W8) : Nat → UInt32 := fun j => s.list.getD j 0
def add8 (h s : W8) : W8 := ⟨h.a + s.a, h.b + s.b, h.c + s.c, h.d + s.d, h.e + s.e, h.f + s.f, h.g + s.g, h.h + s.h⟩
def z5J (h : W8) (b : Bs) (ks : Nat → UInt32) : W8 := add8 h (rnds h ks (z28 (z2j b 16) 64) 64)
theorem z4Q (b : Bs) (i : Nat) : z2j b (i + 1) = upd (z2j b i) i (zcU b i) := by simp [z2j, List.range_succ]
theorem z4R {ws : Nat → UInt32} {i : Nat} (h : 16 ≤ i) : z28 ws (i + 1) = z3v (z28 ws i) i := by
 rw [z28, z28, show i + 1 - 16 = (i - 16) + 1 by omega, List.range_succ, List.foldl_append]
 simp [show i - 16 + 16 = i by omega]
theorem z7d (s : W8) (ks ws : Nat → UInt32) (i : Nat) : rnds s ks ws (i + 1) = rnd (rnds s ks ws i) (ks i) (ws i) := by simp [rnds, List.range_succ]
theorem z4S (h s : Nat → UInt32) (i : Nat) : addW h s (i + 1) = upd (addW h s i) i (addW h s i i + s i) := by simp [addW, List.range_succ]
theorem z6l (h s : Nat → UInt32) : ∀ (i j : Nat), addW h s i j = if j < i then h j + s j else h j
 | 0, j => rfl
 | i + 1, j => by
   rw [z4S, upd, z6l h s i, z6l h s i]
   by_cases hj : j = i
   ·subst hj; simp
   ·have : Nat.beq j i = false := by
     cases hb : Nat.beq j i with
     | false => rfl
     | true => exact absurd (Nat.eq_of_beq_eq_true hb) hj
    rw [this, cond_false]
    by_cases h1 : j < i
    ·rw [if_pos h1, if_pos (by omega)]
    ·rw [if_neg h1, if_neg (by omega)]
def z0H : Nat → Bs → Bs
 | 0, t => t
 | n + 1, t => if t.length % 64 = 56 then t else z0H n (t ++ [0])
def lenB (n : Nat) (i : Nat) : Bs := (List.range i).map fun j => UInt8.ofNat (n / 2 ^ (8 * (7 - j)))
def padB (t : Bs) : Bs := z0H 64 (t ++ [128]) ++ lenB (8 * t.length) 8
def z1J (h : W8) (p : Bs) (ks : Nat → UInt32) (i : Nat) : W8 := (List.range i).foldl (fun h j => z5J h ((p.drop (64 * j)).take 64) ks) h
theorem z41 (h : W8) (p : Bs) (ks : Nat → UInt32) (i : Nat) : z1J h p ks (i + 1) = z5J (z1J h p ks i) ((p.drop (64 * i)).take 64) ks := by simp [z1J, List.range_succ]
def out4 (out : Bs) (x : UInt32) (i : Nat) : Bs :=
 (((out.set (4 * i) (UInt8.ofNat (shrN x 24).toNat)).set (4 * i + 1) (UInt8.ofNat (shrN x 16).toNat)).set (4 * i + 2) (UInt8.ofNat (shrN x 8).toNat)).set (4 * i + 3) (UInt8.ofNat x.toNat)
def outB (h : Nat → UInt32) (i : Nat) : Bs := (List.range i).foldl (fun out j => out4 out (h j) j) (List.replicate 32 0)
theorem z7e (h : Nat → UInt32) (i : Nat) : outB h (i + 1) = out4 (outB h i) (h i) i := by simp [outB, List.range_succ]
theorem z6m (h : Nat → UInt32) : ∀ i, (outB h i).length = 32
 | 0 => rfl
 | i + 1 => by rw [z7e]; simp only [out4, List.length_set]; exact z6m h i
def first8 : W8 := ⟨1779033703, 3144134277, 1013904242, 2773480762, 1359893119, 2600822924, 528734635, 1541459225⟩
def keys64 : List UInt32 := [1116352408, 1899447441, 3049323471, 3921009573, 961987163, 1508970993, 2453635748, 2870763221, 3624381080, 310598401, 607225278, 1426881987, 1925078388, 2162078206, 2614888103, 3248222580, 3835390401, 4022224774, 264347078, 604807628, 770255983, 1249150122, 1555081692, 1996064986, 2554220882, 2821834349, 2952996808, 3210313671, 3336571891, 3584528711, 113926993, 338241895, 666307205, 773529912, 1294757372, 1396182291, 1695183700, 1986661051, 2177026350, 2456956037, 2730485921, 2820302411, 3259730800, 3345764771, 3516065817, 3600352804, 4094571909, 275423344, 430227734, 506948616, 659060556, 883997877, 958139571, 1322822218, 1537002063, 1747873779, 1955562222, 2024104815, 2227730452, 2361852424, 2428436474, 2756734187, 3204031479, 3329325298]
def kF : Nat → UInt32 := fun j => keys64.getD j 0
def z2A (t : Bs) : Bs := outB (z1J first8 (padB t) kF ((padB t).length / 64)).fn 8
theorem z4T : ∀ (n : Nat) (t : Bs), (56 + 64 - t.length % 64) % 64 ≤ n → (z0H n t).length % 64 = 56 ∧ (z0H n t).length ≤ t.length + n
 | 0, t, h => by simp only [z0H]; omega
 | n + 1, t, h => by
   simp only [z0H]
   split
   ·omega
   ·have := z4T n (t ++ [0]) (by simp; omega)
    simp at this ⊢
    omega
theorem z9f (t : Bs) : (padB t).length % 64 = 0 ∧ (padB t).length ≤ t.length + 73 ∧ 64 ≤ (padB t).length := by
 have := z4T 64 (t ++ [128]) (by omega)
 simp only [padB, lenB, List.length_append, List.length_map, List.length_range, List.length_singleton] at this ⊢
 omega
theorem z4U (t : Bs) : (z2A t).length = 32 := z6m _ _
end Go.Proofs.YtbcgmjdfnjmhoaaGreatDoor.Pl
namespace Go.Proofs.YtbcgmjdfnjmhoaaGreatDoor.Pl
set_option linter.unusedVariables false
set_option linter.unusedSimpArgs false
set_option linter.unusedSectionVars false
theorem z9g : ∀ (n : Nat) (t : Bs), (56 + 64 - t.length % 64) % 64 ≤ n → z0H n t = t ++ List.replicate ((56 + 64 - t.length % 64) % 64) 0
 | 0, t, h => by
   have h0 : (56 + 64 - t.length % 64) % 64 = 0 := by omega
   simp [z0H, h0]
 | n + 1, t, h => by
   simp only [z0H]
   split
   ·have h0 : (56 + 64 - t.length % 64) % 64 = 0 := by omega
    simp [h0]
   ·have e : (56 + 64 - t.length % 64) % 64 = (56 + 64 - (t ++ [0]).length % 64) % 64 + 1 := by simp; omega
    rw [z9g n (t ++ [0]) (by omega), e, List.append_assoc, List.replicate_succ]
    rfl
def padI (t : Bs) : Bs := t ++ [128] ++ List.replicate ((119 - t.length % 64) % 64) 0 ++ lenB (8 * t.length) 8
theorem zep (t : Bs) : padI t = padB t := by
 have e : (56 + 64 - (t ++ [128]).length % 64) % 64 = (119 - t.length % 64) % 64 := by simp; omega
 rw [padI, padB, z9g 64 (t ++ [128]) (by omega), e]
def four (x : UInt32) : Bs := [UInt8.ofNat (shrN x 24).toNat, UInt8.ofNat (shrN x 16).toNat, UInt8.ofNat (shrN x 8).toNat, UInt8.ofNat x.toNat]
def outI (h : Nat → UInt32) (i : Nat) : Bs := (List.range i).flatMap fun j => four (h j)
theorem z7f (h : Nat → UInt32) (i : Nat) : outI h (i + 1) = outI h i ++ four (h i) := by simp [outI, List.range_succ]
theorem z9h (h : Nat → UInt32) : ∀ i, (outI h i).length = 4 * i
 | 0 => rfl
 | i + 1 => by rw [z7f, List.length_append, z9h h i]; simp [four]; omega
theorem zeq (h : Nat → UInt32) : outI h 8 = outB h 8 := by kernel_rfl
theorem zbC (x : UInt32) (n : Nat) : shlN x (32 - n) ||| shrN x n = z1I x n := UInt32.or_comm _ _
theorem xor_comm (a b : UInt32) : a ^^^ b = b ^^^ a := UInt32.xor_comm _ _
def ixB (s : Bs) : Nat := ((z2A s).getD 0 0).toNat
end Go.Proofs.YtbcgmjdfnjmhoaaGreatDoor.Pl
namespace Go.Proofs.YtbcgmjdfnjmhoaaGreatDoor.Pl
set_option linter.unusedVariables false
set_option linter.unusedSimpArgs false
set_option linter.unusedSectionVars false
end Go.Proofs.YtbcgmjdfnjmhoaaGreatDoor.Pl
namespace Go.Proofs.YtbcgmjdfnjmhoaaGreatDoor.Pl
set_option linter.unusedVariables false
set_option linter.unusedSimpArgs false
set_option linter.unusedSectionVars false
abbrev Ch := Int × Bs × Bs
def z1r (l : List Lf) (u : Ch) : List Lf := bif u.2.2.isEmpty then (z36 l u.2.1).1 else (insR l u.2.1 u.2.2).1
def z2z (l : List Lf) (u : Ch) : List Lf := bif u.2.2.isEmpty then (z36 l u.2.1).1 else (putR l u.2.1 u.2.2).1
theorem zcR {l : List Lf} {n : Bs} (h : z04 l = true) : z04 (z36 l n).1 = true := by
 unfold z36
 cases (z0Z l n).isSome && z04 l
 ·exact h
 ·exact z9V h
theorem zen {l : List Lf} {n v : Bs} (h : z04 l = true) : z04 (insR l n v).1 = true := by
 unfold insR
 rw [h, Bool.true_and]
 cases h2 : z04 (insL l n v)
 ·exact h
 ·exact h2
theorem z7b {l : List Lf} {u : Ch} (h : z04 l = true) : z04 (z1r l u) = true := by
 unfold z1r
 cases u.2.2.isEmpty
 ·exact zen h
 ·exact zcR h
theorem zbx {l : List Lf} {n v : Bs} (h : z04 l = true) : insR l n v = putR l n v := by
 rw [insR, putR, zbh (z1D h).2.2]
theorem zby {l : List Lf} {u : Ch} (h : z04 l = true) : z2z l u = z1r l u := by
 rw [z2z, z1r, zbx h]
theorem z82 {us : List Ch} : ∀ {l : List Lf}, z04 l = true → z04 (us.foldl z1r l) = true := by
 induction us with
 | nil => exact fun h => h
 | cons u us ih => exact fun h => ih (z7b h)
theorem zbz {us : List Ch} : ∀ {l : List Lf}, z04 l = true → us.foldl z2z l = us.foldl z1r l := by
 induction us with
 | nil => exact fun _ => rfl
 | cons u us ih => intro l h; rw [List.foldl_cons, List.foldl_cons, zby h]; exact ih (z7b h)
def zcS (l : List Lf) (n : Bs) : Bs × Bool := ((z0Z l n).getD [], (z0Z l n).isSome)
end Go.Proofs.YtbcgmjdfnjmhoaaGreatDoor.Pl
