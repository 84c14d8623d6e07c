/- Plain: the checksum. -/
import Derived.Test.YtkdajahiaedoiaaPlain
import Derived.Laws.BitsAllLaws
namespace Go.Proofs.Ytkdajahiaedoiaa.Pl
def step1 (s : Nat) : Nat := if s % 2 = 1 then (s / 2) ^^^ 3558460437 else s / 2
def stepN : Nat → Nat → Nat
  | 0, s => s
  | n + 1, s => step1 (stepN n s)
def sumMore (s : Nat) (l : Bs) : Nat := l.foldl (fun s b => stepN 8 (s ^^^ b.toNat)) s
def sumOf (l : Bs) : Nat := sumMore 4294967295 l
theorem xor_lt {a b : Nat} (ha : (a : Int) ≤ 4294967295) (hb : (b : Int) ≤ 4294967295) : ((a ^^^ b : Nat) : Int) ≤ 4294967295 := by
  have : a ^^^ b < 2 ^ 32 := Nat.xor_lt_two_pow (by omega) (by omega)
  omega
theorem step1_lt {a : Nat} (ha : (a : Int) ≤ 4294967295) : ((step1 a : Nat) : Int) ≤ 4294967295 := by
  unfold step1; split
  · exact xor_lt (by omega) (by omega)
  · omega
theorem stepN_lt {a : Nat} (ha : (a : Int) ≤ 4294967295) : ∀ n, ((stepN n a : Nat) : Int) ≤ 4294967295
  | 0 => ha
  | n + 1 => step1_lt (stepN_lt ha n)
theorem sumMore_snoc (s : Nat) (l : Bs) (b : UInt8) : sumMore s (l ++ [b]) = stepN 8 (sumMore s l ^^^ b.toNat) := by simp [sumMore]
theorem sumMore_lt {s : Nat} (hs : (s : Int) ≤ 4294967295) : ∀ l : Bs, ((sumMore s l : Nat) : Int) ≤ 4294967295 := by
  intro l
  unfold sumMore
  induction l generalizing s with
  | nil => exact hs
  | cons b l ih =>
    rw [List.foldl_cons]
    refine ih (stepN_lt (xor_lt hs ?_) 8)
    have := b.toNat_lt; omega
theorem sumOf_lt (l : Bs) : ((sumOf l : Nat) : Int) ≤ 4294967295 := sumMore_lt (by omega) l
theorem take_snoc_nb (s : ByteArray) (k : Nat) (h : k < s.size) : ∃ b : UInt8, b.toNat = nb s k ∧ s.data.toList.take (k + 1) = s.data.toList.take k ++ [b] := by
  obtain ⟨b, hb, hd⟩ := drop_nb s k h
  refine ⟨b, hb, ?_⟩
  rw [List.take_add, hd]; rfl
theorem xr32 {a b : Nat} (ha : (a : Int) ≤ 4294967295) (hb : (b : Int) ≤ 4294967295) : bits .xor .u32 (a : Int) (b : Int) = ((a ^^^ b : Nat) : Int) := u32_xor_nat a b (by omega) (by omega)
theorem xr32_half {a : Nat} (ha : (a : Int) ≤ 4294967295) : bits .xor .u32 ((a : Int) / 2) 3558460437 = (((a / 2) ^^^ 3558460437 : Nat) : Int) := by
  have := xr32 (a := a / 2) (b := 3558460437) (by omega) (by omega)
  rw [← this]
  congr 1
theorem and1_u32 {y : Nat} (hy : (y : Int) ≤ 4294967295) : bits .and .u32 (y : Int) 1 = ((y % 2 : Nat) : Int) := by
  have := u32_and_nat y 1 (by omega) (by omega)
  rw [← nat_mask1, ← this]; rfl
/-- A number of 32 bits in four bytes. -/
def fourB (x : Nat) : Bs := [UInt8.ofNat (x / 16777216), UInt8.ofNat (x / 65536), UInt8.ofNat (x / 256), UInt8.ofNat x]

theorem fourB_len (x : Nat) : (fourB x).length = 4 := rfl
def sealed (t : Bs) : Bs := t ++ fourB (sumOf t)
def unsealed (t : Bs) : Option Bs :=
  if 4 ≤ t.length ∧ t.length ≤ 20004 ∧ t.drop (t.length - 4) = fourB (sumOf (t.take (t.length - 4))) then some (t.take (t.length - 4)) else none
end Go.Proofs.Ytkdajahiaedoiaa.Pl
