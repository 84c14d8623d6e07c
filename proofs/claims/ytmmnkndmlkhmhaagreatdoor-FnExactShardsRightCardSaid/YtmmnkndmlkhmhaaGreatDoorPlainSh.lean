/- Plain: words of 32 bits, and the digest as the reference reckons it. Plain: the digest as the program reckons it is the reference's. -/
import Derived.Test.YtmmnkndmlkhmhaaGreatDoorPlain
import Derived.KernelRfl
namespace Go.Proofs.YtmmnkndmlkhmhaaGreatDoor.Pl
set_option linter.unusedVariables false
set_option linter.unusedSimpArgs false
def shlN (x : UInt32) (n : Nat) : UInt32 := UInt32.ofNat (x.toNat * 2 ^ n)
def shrN (x : UInt32) (n : Nat) : UInt32 := UInt32.ofNat (x.toNat / 2 ^ n)
def o8 (b : UInt8) : UInt32 := UInt32.ofNat b.toNat
def turnN (x : UInt32) (n : Nat) : UInt32 := shrN x n ||| shlN x (32 - n)
/-- The i-th word of a block. -/
def wordB (b : Bs) (i : Nat) : UInt32 := shlN (o8 (b.getD (4 * i) 0)) 24 ||| shlN (o8 (b.getD (4 * i + 1) 0)) 16 ||| shlN (o8 (b.getD (4 * i + 2) 0)) 8 ||| o8 (b.getD (4 * i + 3) 0)
/-- Numbers by their places; one of them turned. -/
def upd (f : Nat → UInt32) (i : Nat) (x : UInt32) : Nat → UInt32 := fun j => bif Nat.beq j i then x else f j
def sched0 (b : Bs) (i : Nat) : Nat → UInt32 := (List.range i).foldl (fun ws k => upd ws k (wordB b k)) (fun _ => 0)
def schedStep (ws : Nat → UInt32) (i : Nat) : Nat → UInt32 :=
  upd ws i (ws (i - 16) + (turnN (ws (i - 15)) 7 ^^^ turnN (ws (i - 15)) 18 ^^^ shrN (ws (i - 15)) 3) + ws (i - 7) + (turnN (ws (i - 2)) 17 ^^^ turnN (ws (i - 2)) 19 ^^^ shrN (ws (i - 2)) 10))
/-- The words of a block before round i. -/
def sched1 (ws : Nat → UInt32) (i : Nat) : Nat → UInt32 := (List.range (i - 16)).foldl (fun ws k => schedStep ws (k + 16)) ws
structure W8 where
  a : UInt32
  b : UInt32
  c : UInt32
  d : UInt32
  e : UInt32
  f : UInt32
  g : UInt32
  h : UInt32
def W8.list (s : W8) : List UInt32 := [s.a, s.b, s.c, s.d, s.e, s.f, s.g, s.h]
def rnd (s : W8) (k w : UInt32) : W8 :=
  let one := s.h + (turnN s.e 6 ^^^ turnN s.e 11 ^^^ turnN s.e 25) + (s.e &&& s.f ^^^ (s.e ^^^ 4294967295) &&& s.g) + k + w
  let two := (turnN s.a 2 ^^^ turnN s.a 13 ^^^ turnN s.a 22) + (s.a &&& s.b ^^^ s.a &&& s.c ^^^ s.b &&& s.c)
  ⟨one + two, s.a, s.b, s.c, s.d + one, s.e, s.f, s.g⟩
def rnds (s : W8) (ks ws : Nat → UInt32) (i : Nat) : W8 := (List.range i).foldl (fun s j => rnd s (ks j) (ws j)) s
def addW (h s : Nat → UInt32) (i : Nat) : Nat → UInt32 := (List.range i).foldl (fun l j => upd l j (l j + s j)) h
def W8.fn (s : W8) : Nat → UInt32 := fun j => s.list.getD j 0
def add8 (h s : W8) : W8 := ⟨h.a + s.a, h.b + s.b, h.c + s.c, h.d + s.d, h.e + s.e, h.f + s.f, h.g + s.g, h.h + s.h⟩
def blockF (h : W8) (b : Bs) (ks : Nat → UInt32) : W8 := add8 h (rnds h ks (sched1 (sched0 b 16) 64) 64)
theorem sched0_next (b : Bs) (i : Nat) : sched0 b (i + 1) = upd (sched0 b i) i (wordB b i) := by simp [sched0, List.range_succ]
theorem sched1_next {ws : Nat → UInt32} {i : Nat} (h : 16 ≤ i) : sched1 ws (i + 1) = schedStep (sched1 ws i) i := by
  rw [sched1, sched1, show i + 1 - 16 = (i - 16) + 1 by omega, List.range_succ, List.foldl_append]
  simp [show i - 16 + 16 = i by omega]
theorem rnds_next (s : W8) (ks ws : Nat → UInt32) (i : Nat) : rnds s ks ws (i + 1) = rnd (rnds s ks ws i) (ks i) (ws i) := by simp [rnds, List.range_succ]
theorem addW_next (h s : Nat → UInt32) (i : Nat) : addW h s (i + 1) = upd (addW h s i) i (addW h s i i + s i) := by simp [addW, List.range_succ]
theorem addW_at (h s : Nat → UInt32) : ∀ (i j : Nat), addW h s i j = if j < i then h j + s j else h j
  | 0, j => rfl
  | i + 1, j => by
    rw [addW_next, upd, addW_at h s i, addW_at h s i]
    by_cases hj : j = i
    · subst hj; simp
    · have : Nat.beq j i = false := by
        cases hb : Nat.beq j i with
        | false => rfl
        | true => exact absurd (Nat.eq_of_beq_eq_true hb) hj
      rw [this, cond_false]
      by_cases h1 : j < i
      · rw [if_pos h1, if_pos (by omega)]
      · rw [if_neg h1, if_neg (by omega)]
/-! ### the digest -/
def zerosTo56 : Nat → Bs → Bs
  | 0, t => t
  | n + 1, t => if t.length % 64 = 56 then t else zerosTo56 n (t ++ [0])
def lenB (n : Nat) (i : Nat) : Bs := (List.range i).map fun j => UInt8.ofNat (n / 2 ^ (8 * (7 - j)))
def padB (t : Bs) : Bs := zerosTo56 64 (t ++ [128]) ++ lenB (8 * t.length) 8
def blocksF (h : W8) (p : Bs) (ks : Nat → UInt32) (i : Nat) : W8 := (List.range i).foldl (fun h j => blockF h ((p.drop (64 * j)).take 64) ks) h
theorem blocksF_next (h : W8) (p : Bs) (ks : Nat → UInt32) (i : Nat) : blocksF h p ks (i + 1) = blockF (blocksF h p ks i) ((p.drop (64 * i)).take 64) ks := by simp [blocksF, List.range_succ]
def out4 (out : Bs) (x : UInt32) (i : Nat) : Bs :=
  (((out.set (4 * i) (UInt8.ofNat (shrN x 24).toNat)).set (4 * i + 1) (UInt8.ofNat (shrN x 16).toNat)).set (4 * i + 2) (UInt8.ofNat (shrN x 8).toNat)).set (4 * i + 3) (UInt8.ofNat x.toNat)
def outB (h : Nat → UInt32) (i : Nat) : Bs := (List.range i).foldl (fun out j => out4 out (h j) j) (List.replicate 32 0)
theorem outB_next (h : Nat → UInt32) (i : Nat) : outB h (i + 1) = out4 (outB h i) (h i) i := by simp [outB, List.range_succ]
theorem outB_len (h : Nat → UInt32) : ∀ i, (outB h i).length = 32
  | 0 => rfl
  | i + 1 => by rw [outB_next]; simp only [out4, List.length_set]; exact outB_len h i
def first8 : W8 := ⟨1779033703, 3144134277, 1013904242, 2773480762, 1359893119, 2600822924, 528734635, 1541459225⟩
def keys64 : List UInt32 := [1116352408, 1899447441, 3049323471, 3921009573, 961987163, 1508970993, 2453635748, 2870763221, 3624381080, 310598401, 607225278, 1426881987, 1925078388, 2162078206, 2614888103, 3248222580, 3835390401, 4022224774, 264347078, 604807628, 770255983, 1249150122, 1555081692, 1996064986, 2554220882, 2821834349, 2952996808, 3210313671, 3336571891, 3584528711, 113926993, 338241895, 666307205, 773529912, 1294757372, 1396182291, 1695183700, 1986661051, 2177026350, 2456956037, 2730485921, 2820302411, 3259730800, 3345764771, 3516065817, 3600352804, 4094571909, 275423344, 430227734, 506948616, 659060556, 883997877, 958139571, 1322822218, 1537002063, 1747873779, 1955562222, 2024104815, 2227730452, 2361852424, 2428436474, 2756734187, 3204031479, 3329325298]
def kF : Nat → UInt32 := fun j => keys64.getD j 0
def digestB (t : Bs) : Bs := outB (blocksF first8 (padB t) kF ((padB t).length / 64)).fn 8
theorem zeros_mod : ∀ (n : Nat) (t : Bs), (56 + 64 - t.length % 64) % 64 ≤ n → (zerosTo56 n t).length % 64 = 56 ∧ (zerosTo56 n t).length ≤ t.length + n
  | 0, t, h => by simp only [zerosTo56]; omega
  | n + 1, t, h => by
    simp only [zerosTo56]
    split
    · omega
    · have := zeros_mod n (t ++ [0]) (by simp; omega)
      simp at this ⊢
      omega
theorem padB_len (t : Bs) : (padB t).length % 64 = 0 ∧ (padB t).length ≤ t.length + 73 ∧ 64 ≤ (padB t).length := by
  have := zeros_mod 64 (t ++ [128]) (by omega)
  simp only [padB, lenB, List.length_append, List.length_map, List.length_range, List.length_singleton] at this ⊢
  omega
theorem digestB_len (t : Bs) : (digestB t).length = 32 := outB_len _ _
end Go.Proofs.YtmmnkndmlkhmhaaGreatDoor.Pl
namespace Go.Proofs.YtmmnkndmlkhmhaaGreatDoor.Pl
set_option linter.unusedVariables false
set_option linter.unusedSimpArgs false
theorem zeros_eq : ∀ (n : Nat) (t : Bs), (56 + 64 - t.length % 64) % 64 ≤ n → zerosTo56 n t = t ++ List.replicate ((56 + 64 - t.length % 64) % 64) 0
  | 0, t, h => by
    have h0 : (56 + 64 - t.length % 64) % 64 = 0 := by omega
    simp [zerosTo56, h0]
  | n + 1, t, h => by
    simp only [zerosTo56]
    split
    · have h0 : (56 + 64 - t.length % 64) % 64 = 0 := by omega
      simp [h0]
    · have e : (56 + 64 - t.length % 64) % 64 = (56 + 64 - (t ++ [0]).length % 64) % 64 + 1 := by simp; omega
      rw [zeros_eq n (t ++ [0]) (by omega), e, List.append_assoc, List.replicate_succ]
      rfl
def padI (t : Bs) : Bs := t ++ [128] ++ List.replicate ((119 - t.length % 64) % 64) 0 ++ lenB (8 * t.length) 8
theorem padI_eq (t : Bs) : padI t = padB t := by
  have e : (56 + 64 - (t ++ [128]).length % 64) % 64 = (119 - t.length % 64) % 64 := by simp; omega
  rw [padI, padB, zeros_eq 64 (t ++ [128]) (by omega), e]
def four (x : UInt32) : Bs := [UInt8.ofNat (shrN x 24).toNat, UInt8.ofNat (shrN x 16).toNat, UInt8.ofNat (shrN x 8).toNat, UInt8.ofNat x.toNat]
def outI (h : Nat → UInt32) (i : Nat) : Bs := (List.range i).flatMap fun j => four (h j)
theorem outI_next (h : Nat → UInt32) (i : Nat) : outI h (i + 1) = outI h i ++ four (h i) := by simp [outI, List.range_succ]
theorem outI_len (h : Nat → UInt32) : ∀ i, (outI h i).length = 4 * i
  | 0 => rfl
  | i + 1 => by rw [outI_next, List.length_append, outI_len h i]; simp [four]; omega
theorem outI_eq (h : Nat → UInt32) : outI h 8 = outB h 8 := by kernel_rfl
theorem turn_comm (x : UInt32) (n : Nat) : shlN x (32 - n) ||| shrN x n = turnN x n := UInt32.or_comm _ _
theorem xor_comm (a b : UInt32) : a ^^^ b = b ^^^ a := UInt32.xor_comm _ _
/-- The index of a name. -/
def ixB (s : Bs) : Nat := ((digestB s).getD 0 0).toNat
theorem ixB_lt (s : Bs) : ixB s < 256 := UInt8.toNat_lt _
end Go.Proofs.YtmmnkndmlkhmhaaGreatDoor.Pl
