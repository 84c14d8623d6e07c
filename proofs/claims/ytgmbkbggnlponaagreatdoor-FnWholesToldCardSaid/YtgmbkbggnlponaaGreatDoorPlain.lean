/- Plain mathematics of the directory: numbers and short strings as lists of bytes. No program in sight. -/
import GoSem.Claim
import Derived.Lib.Strings
import Derived.PlainAid
namespace Go.Proofs.YtgmbkbggnlponaaGreatDoor.Pl
set_option linter.unusedVariables false
set_option linter.unusedSimpArgs false
set_option linter.unusedSectionVars false
abbrev Bs := List UInt8
def bs (l : Bs) : ByteArray := ⟨l.toArray⟩
theorem z1Z (l : Bs) : (bs l).data.toList = l := by simp [bs]
theorem zaR (s : ByteArray) : bs s.data.toList = s := Lib.mk_data s
theorem z19 (l : Bs) : (bs l).size = l.length := by simp [bs, ByteArray.size]
theorem z1G (s : ByteArray) : s.data.toList.length = s.size := (Lib.size_eq s).symm
theorem z5P {a b : ByteArray} (h : a.data.toList = b.data.toList) : a = b := by
 rw [← zaR a, ← zaR b, h]
theorem data_append (a b : ByteArray) : (a ++ b).data.toList = a.data.toList ++ b.data.toList := by simp [ByteArray.data_append]
theorem z2V (s : ByteArray) (a b : Nat) : (s.extract a b).data.toList = (s.data.toList.drop a).take (b - a) := Lib.extract_data s a b
theorem toList_data (s : ByteArray) : s.toList = s.data.toList := Lib.toList_data s
def z0g (n : Nat) : Bs := if n ≤ 127 then [UInt8.ofNat n] else UInt8.ofNat (128 + n % 128) :: z0g (n / 128)
termination_by n
decreasing_by omega
theorem z1m {n : Nat} (h : n ≤ 127) : z0g n = [UInt8.ofNat n] := by rw [z0g, if_pos h]
theorem z2N {n : Nat} (h : ¬ n ≤ 127) : z0g n = UInt8.ofNat (128 + n % 128) :: z0g (n / 128) := by rw [z0g, if_neg h]
theorem zaS (n : Nat) : 1 ≤ (z0g n).length := by
 rw [z0g]; split <;> simp
theorem z7z : ∀ (f n : Nat), n < 128 ^ (f + 1) → (z0g n).length ≤ f + 1
 | 0, n, h => by rw [z1m (by omega)]; simp
 | f + 1, n, h => by
   by_cases hn : n ≤ 127
   ·rw [z1m hn]; simp
   ·rw [z2N hn]
    have := z7z f (n / 128) (by rw [Nat.div_lt_iff_lt_mul (by omega)]; rw [Nat.pow_succ] at h; exact h)
    simp; omega
theorem z2O {n : Nat} (h : (n : Int) ≤ 2000000000) : (z0g n).length ≤ 5 := by
 refine z7z 4 n ?_
 have h1 : (128 : Nat) ^ (4 + 1) = 34359738368 := by decide
 rw [h1]; omega
def z0e (l : Bs) : Bs := z0g l.length ++ l
theorem z2G {l : Bs} (h : (l.length : Int) ≤ 2000000000) : (z0e l).length ≤ l.length + 5 := by
 have := z2O h
 rw [z0e, List.length_append]; omega
def rvGo : Nat → Nat → Nat → Bs → Option (Nat × Nat)
 | 0, _, _, _ => none
 | _ + 1, _, _, [] => none
 | f + 1, k, n, x :: r =>
   if x.toNat < 128 then (if (x.toNat = 0 ∧ 0 < k) ∨ 1000000000 < n + x.toNat * 2 ^ (7 * k) then none else some (n + x.toNat * 2 ^ (7 * k), k + 1))
   else rvGo f (k + 1) (n + (x.toNat % 128) * 2 ^ (7 * k)) r
def z0G (t : Bs) (p : Nat) : Option (Nat × Nat) := (rvGo 5 0 0 (t.drop p)).map fun x => (x.1, p + x.2)
theorem z7A (k n : Nat) (r : Bs) : rvGo 0 k n r = none := rfl
theorem z7B (f k n : Nat) : rvGo f k n [] = none := by cases f <;> rfl
theorem zdZ (f k n : Nat) (x : UInt8) (r : Bs) (h : x.toNat < 128) (h1 : ¬ (x.toNat = 0 ∧ 0 < k)) (h2 : n + x.toNat * 2 ^ (7 * k) ≤ 1000000000) :
 rvGo (f + 1) k n (x :: r) = some (n + x.toNat * 2 ^ (7 * k), k + 1) := by
 rw [rvGo, if_pos h, if_neg (by omega)]
theorem z63 (f k n : Nat) (x : UInt8) (r : Bs) (h : ¬ x.toNat < 128) : rvGo (f + 1) k n (x :: r) = rvGo f (k + 1) (n + (x.toNat % 128) * 2 ^ (7 * k)) r := by
 rw [rvGo, if_neg h]
theorem zfG (s : ByteArray) (p : Nat) (h : p < s.size) : s.data.toList.drop p = s[p] :: s.data.toList.drop (p + 1) := by
 rw [List.drop_eq_getElem_cons (by rw [z1G]; exact h)]; rfl
def nb (s : ByteArray) (k : Nat) : Nat := if h : k < s.size then (s[k]'h).toNat else 0
theorem zgP (s : ByteArray) : ∀ (n : Nat) (h : n < s.size), ((s[n]'h).toNat : Int) = ((nb s n : Nat) : Int) := fun n h => by unfold nb; rw [dif_pos h]
theorem nb_le (s : ByteArray) (k : Nat) : ((nb s k : Nat) : Int) ≤ 255 := by
 unfold nb; split
 ·have := (s[k]).toNat_lt; omega
 ·omega
theorem ze0 (s : ByteArray) (p : Nat) (h : p < s.size) : ∃ b : UInt8, b.toNat = nb s p ∧ s.data.toList.drop p = b :: s.data.toList.drop (p + 1) :=
 ⟨s[p], by unfold nb; rw [dif_pos h], zfG s p h⟩
theorem zcU (m x j : Nat) (hj : j < 5) (hm : m < 128 ^ j) : RowKit.wrap64 ((m : Int) + RowKit.wrap64 ((x : Int) % 128 * 2 ^ (7 * j))) = ((m + x % 128 * 2 ^ (7 * j) : Nat) : Int) ∧ m + x % 128 * 2 ^ (7 * j) < 128 ^ (j + 1) := by
 rcases (show j = 0 ∨ j = 1 ∨ j = 2 ∨ j = 3 ∨ j = 4 from by omega) with rfl | rfl | rfl | rfl | rfl <;> simp only [RowKit.wrap64] <;> simp at hm ⊢ <;> omega
theorem z64 : ∀ (f k n : Nat) (r : Bs) (m c : Nat), rvGo f k n r = some (m, c) → k < c ∧ c ≤ k + r.length ∧ c ≤ k + f ∧ m ≤ 1000000000
 | 0, _, _, _, _, _, h => by cases h
 | _ + 1, _, _, [], _, _, h => by cases h
 | f + 1, k, n, x :: r, m, c, h => by
   rw [rvGo] at h
   split at h
   ·split at h
    ·cases h
    ·injection h with h; injection h with h1 h2; subst h1; subst h2; simp; omega
   ·have := z64 f (k + 1) _ r m c h
    simp; omega
theorem z1a {t : Bs} {p n q : Nat} (h : z0G t p = some (n, q)) : p < q ∧ q ≤ t.length ∧ q ≤ p + 5 ∧ n ≤ 1000000000 := by
 unfold z0G at h
 rcases hg : rvGo 5 0 0 (t.drop p) with _ | ⟨m, c⟩
 ·rw [hg] at h; cases h
 ·rw [hg] at h
  simp at h
  obtain ⟨rfl, rfl⟩ := h
  have := z64 _ _ _ _ _ _ hg
  simp at this
  omega
def z0o (t : Bs) (p : Nat) : Option (Bs × Nat) :=
 match z0G t p with
 | none => none
 | some (n, q) => if n ≤ 20000 ∧ n ≤ t.length - q then some ((t.drop q).take n, q + n) else none
def z2p (t : Bs) (p : Nat) (bad : Bool) : Nat × Nat × Bool := match z0G t p with
 | none => (0, p, true)
 | some (n, q) => (n, q, bad)
def z0E (t : Bs) (p : Nat) (bad : Bool) : Bs × Nat × Bool := match z0o t p with
 | none => ([], p, true)
 | some (l, q) => (l, q, bad)
def z0p (t : Bs) (p : Nat) (bad : Bool) (n : Nat) : Bs × Nat × Bool :=
 if bad = true ∨ t.length - p < n then ([], p, true) else ((t.drop p).take n, p + n, bad)
def z1j (t : Bs) (p : Nat) (bad : Bool) : Nat × Nat × Bool := match z0p t p bad 1 with
 | ([], q, b) => (0, q, b)
 | (x :: _, q, b) => (x.toNat, q, b)
def z0M (t : Bs) (p : Nat) (bad : Bool) (n : Int) : Bs × Nat × Bool := if n < 0 then ([], p, true) else z0p t p bad n.toNat
def z3i (bad : Bool) (p n : Nat) : Bool := !bad && p == n
theorem z3u {t : Bs} {p q : Nat} {l : Bs} (h : z0o t p = some (l, q)) : p < q ∧ q ≤ t.length ∧ l.length ≤ 20000 := by
 unfold z0o at h
 rcases hr : z0G t p with _ | ⟨n, c⟩
 ·rw [hr] at h; cases h
 ·have hb := z1a hr
  rw [hr] at h
  simp only at h
  split at h
  ·injection h with h; injection h with h1 h2; subst h1; subst h2
   simp; omega
  ·cases h
theorem z2W {t : Bs} {p : Nat} {bad : Bool} (hp : p ≤ t.length) : (z2p t p bad).2.1 ≤ t.length ∧ (z2p t p bad).1 ≤ 1000000000 := by
 unfold z2p
 rcases hr : z0G t p with _ | ⟨n, q⟩
 ·simp [hp]
 ·have := z1a hr
  simp; omega
theorem z1A {t : Bs} {p : Nat} {bad : Bool} (hp : p ≤ t.length) : (z0E t p bad).2.1 ≤ t.length ∧ (z0E t p bad).1.length ≤ 20000 := by
 unfold z0E
 rcases hr : z0o t p with _ | ⟨n, q⟩
 ·simp [hp]
 ·have := z3u hr
  simp; omega
def val : Bs → Nat
 | [] => 0
 | d :: r => d.toNat % 128 + 128 * val r
theorem z5Q (x : UInt8) : ∀ ds : Bs, val (ds ++ [x]) = val ds + 128 ^ ds.length * (x.toNat % 128)
 | [] => by simp [val]
 | d :: r => by
   rw [List.cons_append, val, val, z5Q x r, List.length_cons, Nat.pow_succ, Nat.mul_add]
   have : 128 ^ r.length * 128 * (x.toNat % 128) = 128 * (128 ^ r.length * (x.toNat % 128)) := by rw [Nat.mul_comm (128 ^ r.length) 128, Nat.mul_assoc]
   omega
theorem zgQ : ∀ ds : Bs, val ds < 128 ^ ds.length
 | [] => by simp [val]
 | d :: r => by
   have := zgQ r
   rw [val, List.length_cons, Nat.pow_succ]
   omega
theorem ofNat_toNat (d : UInt8) : UInt8.ofNat d.toNat = d := by simp
theorem z4d (x : UInt8) (hx : x.toNat < 128) : ∀ ds : Bs, (∀ d ∈ ds, 128 ≤ d.toNat) → (z0g (val (ds ++ [x])) = ds ++ [x] ↔ (x.toNat ≠ 0 ∨ ds = []))
 | [], _ => by
   have h : val ([] ++ [x]) = x.toNat := by simp [val]; omega
   rw [h, z1m (by omega)]
   simp
 | d :: r, h => by
   have hd : 128 ≤ d.toNat := h d (by simp)
   have hd2 := d.toNat_lt
   have ih := z4d x hx r (fun e he => h e (by simp [he]))
   have hv : val (d :: r ++ [x]) = d.toNat % 128 + 128 * val (r ++ [x]) := rfl
   rw [hv]
   by_cases h0 : val (r ++ [x]) = 0
   ·rw [h0, z1m (by omega)]
    have hx0 : x.toNat = 0 := by
     rw [z5Q] at h0
     have h1 : 128 ^ r.length * (x.toNat % 128) = 0 := by omega
     rcases Nat.mul_eq_zero.1 h1 with h2 | h2
     ·exact absurd h2 (by have := Nat.pow_pos (n := r.length) (show 0 < 128 by omega); omega)
     ·omega
    simp [hx0]
   ·rw [z2N (by omega)]
    have e1 : (d.toNat % 128 + 128 * val (r ++ [x])) / 128 = val (r ++ [x]) := by omega
    have e2 : 128 + (d.toNat % 128 + 128 * val (r ++ [x])) % 128 = d.toNat := by omega
    rw [e1, e2, ofNat_toNat, List.cons_append, List.cons.injEq, ih]
    constructor
    ·rintro ⟨_, hc | hc⟩
     ·exact .inl hc
     ·subst hc
      refine .inl (fun hz => h0 ?_)
      simp [val, hz]
    ·rintro (hc | hc)
     ·exact ⟨rfl, .inl hc⟩
     ·cases hc
def Digs (ds : Bs) (k m : Nat) : Prop := ds.length = k ∧ (∀ d ∈ ds, 128 ≤ d.toNat) ∧ m = val ds
theorem zfH (l : Bs) : Digs (l.take 0) 0 0 := ⟨by simp, by simp, by simp [val]⟩
theorem z59 (k : Nat) : 128 ^ k = 2 ^ (7 * k) := by rw [Nat.pow_mul]
theorem Digs.lt {ds : Bs} {k m : Nat} (h : Digs ds k m) : m < 128 ^ k := by rw [h.2.2, ← h.1]; exact zgQ ds
theorem Digs.snoc {t : Bs} {p k m : Nat} {b : UInt8} {r : Bs} (h : Digs ((t.drop p).take k) k m) (hd : t.drop (p + k) = b :: r) (hb : 128 ≤ b.toNat) :
 Digs ((t.drop p).take (k + 1)) (k + 1) (m + b.toNat % 128 * 2 ^ (7 * k)) := by
 obtain ⟨h1, h2, h3⟩ := h
 have e : (t.drop p).take (k + 1) = (t.drop p).take k ++ [b] := by
  rw [List.take_add, List.drop_drop, hd]; rfl
 rw [e]
 refine ⟨by simp [h1], ?_, ?_⟩
 ·intro d hd'
  rcases List.mem_append.1 hd' with hd' | hd'
  ·exact h2 d hd'
  ·simp at hd'; subst hd'; exact hb
 ·rw [z5Q, h1, h3, ← z59, Nat.mul_comm]
theorem Digs.last {t : Bs} {p k m : Nat} {b : UInt8} {r : Bs} (h : Digs ((t.drop p).take k) k m) (hd : t.drop (p + k) = b :: r) (hb : b.toNat < 128) :
 z0g (m + b.toNat % 128 * 2 ^ (7 * k)) = (t.drop p).take (k + 1) ↔ ¬ (b.toNat = 0 ∧ 0 < k) := by
 obtain ⟨h1, h2, h3⟩ := h
 have e : (t.drop p).take (k + 1) = (t.drop p).take k ++ [b] := by
  rw [List.take_add, List.drop_drop, hd]; rfl
 have e2 : m + b.toNat % 128 * 2 ^ (7 * k) = val ((t.drop p).take k ++ [b]) := by rw [z5Q, h1, h3, ← z59, Nat.mul_comm]
 rw [e, e2, z4d b hb _ h2]
 constructor
 ·rintro (h | h) ⟨h4, h5⟩
  ·exact h h4
  ·rw [h] at h1; simp at h1; omega
 ·intro h
  by_cases h4 : b.toNat = 0
  ·right
   refine List.eq_nil_of_length_eq_zero ?_
   omega
  ·exact .inl h4
theorem zcV (m x j : Nat) (hj : j < 5) (hm : m < 128 ^ j) : RowKit.wrap64 ((m : Int) + RowKit.wrap64 ((x : Int) % 128 * ((128 ^ j : Nat) : Int))) = ((m + x % 128 * 2 ^ (7 * j) : Nat) : Int) ∧ RowKit.wrap64 (((128 ^ j : Nat) : Int) * 128) = ((128 ^ (j + 1) : Nat) : Int) := by
 rcases (show j = 0 ∨ j = 1 ∨ j = 2 ∨ j = 3 ∨ j = 4 from by omega) with rfl | rfl | rfl | rfl | rfl <;> simp only [RowKit.wrap64] <;> simp at hm ⊢ <;> omega
def z5a (n : Nat) : Bool := (decide (97 ≤ n) && decide (n ≤ 122)) || (decide (48 ≤ n) && decide (n ≤ 57)) || n == 64 || n == 46
def valN (n : Nat) : Bool := decide (33 ≤ n) && decide (n ≤ 126)
def allN (f : Nat → Bool) (l : Bs) : Bool := decide (1 ≤ l.length) && decide (l.length ≤ 12) && l.all (fun b => f b.toNat)
def z1d (l : Bs) : Bool := allN z5a l
def z1H (l : Bs) : Bool := allN valN l
end Go.Proofs.YtgmbkbggnlponaaGreatDoor.Pl
