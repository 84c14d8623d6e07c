/- Plain mathematics of the directory: numbers and short strings as lists of bytes. No program in sight. -/
import GoSem.Claim
import Derived.Lib.Strings
import Derived.PlainAid
namespace Go.Proofs.YtfgkjgfigjpkoaaDoor.Pl
set_option linter.unusedVariables false
set_option linter.unusedSimpArgs false
set_option linter.unusedSectionVars false
abbrev Bs := List UInt8
def bs (l : Bs) : ByteArray := ⟨l.toArray⟩
theorem z0T (l : Bs) : (bs l).data.toList = l := by simp [bs]
theorem z5F (s : ByteArray) : bs s.data.toList = s := Lib.mk_data s
theorem z0I (l : Bs) : (bs l).size = l.length := by simp [bs, ByteArray.size]
theorem z1G (s : ByteArray) : s.data.toList.length = s.size := (Lib.size_eq s).symm
theorem z67 {a b : ByteArray} (h : a.data.toList = b.data.toList) : a = b := by
 rw [← z5F a, ← z5F b, h]
theorem data_append (a b : ByteArray) : (a ++ b).data.toList = a.data.toList ++ b.data.toList := by simp [ByteArray.data_append]
theorem z4O (s : ByteArray) (a b : Nat) : (s.extract a b).data.toList = (s.data.toList.drop a).take (b - a) := Lib.extract_data s a b
theorem toList_data (s : ByteArray) : s.toList = s.data.toList := Lib.toList_data s
def z1H (n : Nat) : Bs := if n ≤ 127 then [UInt8.ofNat n] else UInt8.ofNat (128 + n % 128) :: z1H (n / 128)
termination_by n
decreasing_by omega
theorem z29 {n : Nat} (h : n ≤ 127) : z1H n = [UInt8.ofNat n] := by rw [z1H, if_pos h]
theorem z5G {n : Nat} (h : ¬ n ≤ 127) : z1H n = UInt8.ofNat (128 + n % 128) :: z1H (n / 128) := by rw [z1H, if_neg h]
def nb (s : ByteArray) (k : Nat) : Nat := if h : k < s.size then (s[k]'h).toNat else 0
theorem z68 (s : ByteArray) : ∀ (n : Nat) (h : n < s.size), ((s[n]'h).toNat : Int) = ((nb s n : Nat) : Int) := fun n h => by unfold nb; rw [dif_pos h]
theorem z9m (s : ByteArray) (k : Nat) : ((nb s k : Nat) : Int) ≤ 255 := by
 unfold nb; split
 ·have := (s[k]).toNat_lt; omega
 ·omega
def val : Bs → Nat
 | [] => 0
 | d :: r => d.toNat % 128 + 128 * val r
theorem z4b (x : UInt8) : ∀ ds : Bs, val (ds ++ [x]) = val ds + 128 ^ ds.length * (x.toNat % 128)
 | [] => by simp [val]
 | d :: r => by
   rw [List.cons_append, val, val, z4b x r, List.length_cons, Nat.pow_succ, Nat.mul_add]
   have : 128 ^ r.length * 128 * (x.toNat % 128) = 128 * (128 ^ r.length * (x.toNat % 128)) := by rw [Nat.mul_comm (128 ^ r.length) 128, Nat.mul_assoc]
   omega
theorem zak : ∀ ds : Bs, val ds < 128 ^ ds.length
 | [] => by simp [val]
 | d :: r => by
   have := zak r
   rw [val, List.length_cons, Nat.pow_succ]
   omega
theorem z5H (d : UInt8) : UInt8.ofNat d.toNat = d := by simp
theorem z2W (x : UInt8) (hx : x.toNat < 128) : ∀ ds : Bs, (∀ d ∈ ds, 128 ≤ d.toNat) → (z1H (val (ds ++ [x])) = ds ++ [x] ↔ (x.toNat ≠ 0 ∨ ds = []))
 | [], _ => by
   have h : val ([] ++ [x]) = x.toNat := by simp [val]; omega
   rw [h, z29 (by omega)]
   simp
 | d :: r, h => by
   have hd : 128 ≤ d.toNat := h d (by simp)
   have hd2 := d.toNat_lt
   have ih := z2W x hx r (fun e he => h e (by simp [he]))
   have hv : val (d :: r ++ [x]) = d.toNat % 128 + 128 * val (r ++ [x]) := rfl
   rw [hv]
   by_cases h0 : val (r ++ [x]) = 0
   ·rw [h0, z29 (by omega)]
    have hx0 : x.toNat = 0 := by
     rw [z4b] at h0
     have h1 : 128 ^ r.length * (x.toNat % 128) = 0 := by omega
     rcases Nat.mul_eq_zero.1 h1 with h2 | h2
     ·exact absurd h2 (by have := Nat.pow_pos (n := r.length) (show 0 < 128 by omega); omega)
     ·omega
    simp [hx0]
   ·rw [z5G (by omega)]
    have e1 : (d.toNat % 128 + 128 * val (r ++ [x])) / 128 = val (r ++ [x]) := by omega
    have e2 : 128 + (d.toNat % 128 + 128 * val (r ++ [x])) % 128 = d.toNat := by omega
    rw [e1, e2, z5H, List.cons_append, List.cons.injEq, ih]
    constructor
    ·rintro ⟨_, hc | hc⟩
     ·exact .inl hc
     ·subst hc
      refine .inl (fun hz => h0 ?_)
      simp [val, hz]
    ·rintro (hc | hc)
     ·exact ⟨rfl, .inl hc⟩
     ·cases hc
def Digs (ds : Bs) (k m : Nat) : Prop := ds.length = k ∧ (∀ d ∈ ds, 128 ≤ d.toNat) ∧ m = val ds
theorem zaO (k : Nat) : 128 ^ k = 2 ^ (7 * k) := by rw [Nat.pow_mul]
theorem Digs.lt {ds : Bs} {k m : Nat} (h : Digs ds k m) : m < 128 ^ k := by rw [h.2.2, ← h.1]; exact zak ds
theorem Digs.last {t : Bs} {p k m : Nat} {b : UInt8} {r : Bs} (h : Digs ((t.drop p).take k) k m) (hd : t.drop (p + k) = b :: r) (hb : b.toNat < 128) :
 z1H (m + b.toNat % 128 * 2 ^ (7 * k)) = (t.drop p).take (k + 1) ↔ ¬ (b.toNat = 0 ∧ 0 < k) := by
 obtain ⟨h1, h2, h3⟩ := h
 have e : (t.drop p).take (k + 1) = (t.drop p).take k ++ [b] := by
  rw [List.take_add, List.drop_drop, hd]; rfl
 have e2 : m + b.toNat % 128 * 2 ^ (7 * k) = val ((t.drop p).take k ++ [b]) := by rw [z4b, h1, h3, ← zaO, Nat.mul_comm]
 rw [e, e2, z2W b hb _ h2]
 constructor
 ·rintro (h | h) ⟨h4, h5⟩
  ·exact h h4
  ·rw [h] at h1; simp at h1; omega
 ·intro h
  by_cases h4 : b.toNat = 0
  ·right
   refine List.eq_nil_of_length_eq_zero ?_
   omega
  ·exact .inl h4
def z2X (n : Nat) : Bool := (decide (97 ≤ n) && decide (n ≤ 122)) || (decide (48 ≤ n) && decide (n ≤ 57)) || n == 64 || n == 46
def valN (n : Nat) : Bool := decide (33 ≤ n) && decide (n ≤ 126)
def allN (f : Nat → Bool) (l : Bs) : Bool := decide (1 ≤ l.length) && decide (l.length ≤ 12) && l.all (fun b => f b.toNat)
def z1v (l : Bs) : Bool := allN z2X l
def z0Y (l : Bs) : Bool := allN valN l
theorem z7I (s : ByteArray) (k : Nat) (h : k < s.data.toList.length) : (s.data.toList[k]).toNat = nb s k := by
 have h' : k < s.size := by rw [← z1G]; exact h
 unfold nb
 rw [dif_pos h']
 rfl
theorem zal (f : Nat → Bool) (s : ByteArray) : s.data.toList.all (fun b => f b.toNat) = true ↔ ∀ k, k < s.size → f (nb s k) = true := by
 rw [List.all_eq_true]
 constructor
 ·intro h k hk
  have hk' : k < s.data.toList.length := by rw [z1G]; exact hk
  rw [← z7I s k hk']
  exact h _ (List.getElem_mem hk')
 ·intro h b hb
  obtain ⟨k, hk, rfl⟩ := List.getElem_of_mem hb
  rw [z7I s k hk]
  exact h k (by rw [← z1G]; exact hk)
theorem z2K {f : Nat → Bool} {s : ByteArray} {k : Nat} (hk : k < s.size) (h : f (nb s k) = false) : allN f s.data.toList = false := by
 have : ¬ (s.data.toList.all (fun b => f b.toNat) = true) := by
  rw [zal]; intro hc; rw [hc k hk] at h; cases h
 simp only [Bool.not_eq_true] at this
 rw [allN, this, Bool.and_false]
theorem z2a {f : Nat → Bool} {s : ByteArray} (h : ∀ k, k < s.size → f (nb s k) = true) (h1 : 1 ≤ s.size) (h2 : s.size ≤ 12) : allN f s.data.toList = true := by
 rw [allN, (zal f s).2 h, z1G]; simp [h1, h2]
theorem z2b {f : Nat → Bool} {s : ByteArray} (h : ¬ (1 ≤ s.size ∧ s.size ≤ 12)) : allN f s.data.toList = false := by
 rw [allN, z1G]
 by_cases h1 : 1 ≤ s.size
 ·have h2 : ¬ s.size ≤ 12 := fun c => h ⟨h1, c⟩
  simp [h2]
 ·simp [h1]
end Go.Proofs.YtfgkjgfigjpkoaaDoor.Pl
