/- Plain: one-time keys, pools of them, signatures, heads, seals and stamps. Plain: a complete proof, right as it is drawn, and its text. Functions by content: drawn proofs. -/
import Derived.Test.YtgmbkbggnlponaaGreatDoorTt
import Derived.Test.YtgmbkbggnlponaaGreatDoorFc
namespace Go.Proofs.YtgmbkbggnlponaaGreatDoor
set_option linter.unusedVariables false
set_option linter.unusedSimpArgs false
set_option linter.unusedSectionVars false
open Go.RowKit Pl
def secB (seed : Bs) (a b v : Nat) : Bs := z14 5 [seed, [UInt8.ofNat a, UInt8.ofNat b, UInt8.ofNat v]] 16
def z3z (s : Bs) : Bs := z14 6 [s] 16
def z2F (seed : Bs) (a n : Nat) : List Bs := (List.range n).map fun i => z3z (secB seed a (i / 2) (i % 2))
def pubB (seed : Bs) (a : Nat) : Bs := z14 6 (z2F seed a 16) 16
def z22 (seed : Bs) (n : Nat) : List Bs := (List.range n).map (pubB seed)
def upN (l : List Bs) (n : Nat) : List Bs := (List.range n).map fun i => z14 3 [pAt l (2 * i), pAt l (2 * i + 1)] 16
def lvlB (l : List Bs) : Nat → List Bs
 | 0 => l
 | j + 1 => upN (lvlB l j) ((lvlB l j).length / 2)
def z6Y (l : List Bs) : Bs := pAt (lvlB l 4) 0
theorem z94 (s : Bs) (a b v : Nat) : (secB s a b v).length = 16 := z0X (by omega)
theorem z6Z (s : Bs) : (z3z s).length = 16 := z0X (by omega)
theorem zcF (s : Bs) (a : Nat) : (pubB s a).length = 16 := z0X (by omega)
theorem z85 (s : Bs) (a n : Nat) : (z2F s a n).length = n := by simp [z2F]
theorem z3R (s : Bs) (n : Nat) : (z22 s n).length = n := by simp [z22]
theorem zff (l : List Bs) (n : Nat) : (upN l n).length = n := by simp [upN]
theorem z4q (s : Bs) (a n : Nat) : z2F s a (n + 1) = z2F s a n ++ [z3z (secB s a (n / 2) (n % 2))] := by simp [z2F, List.range_succ]
theorem zdz (s : Bs) (n : Nat) : z22 s (n + 1) = z22 s n ++ [pubB s n] := by simp [z22, List.range_succ]
theorem zgq (l : List Bs) (n : Nat) : upN l (n + 1) = upN l n ++ [z14 3 [pAt l (2 * n), pAt l (2 * n + 1)] 16] := by simp [upN, List.range_succ]
theorem zbB {s : Bs} {a n : Nat} : ∀ x ∈ z2F s a n, x.length = 16 := by
 intro x hx
 simp only [z2F, List.mem_map] at hx
 obtain ⟨i, _, rfl⟩ := hx
 exact z6Z _
theorem z5q {s : Bs} {n : Nat} : ∀ x ∈ z22 s n, x.length = 16 := by
 intro x hx
 simp only [z22, List.mem_map] at hx
 obtain ⟨i, _, rfl⟩ := hx
 exact zcF _ _
theorem zgr {l : List Bs} {n : Nat} : ∀ x ∈ upN l n, x.length = 16 := by
 intro x hx
 simp only [upN, List.mem_map] at hx
 obtain ⟨i, _, rfl⟩ := hx
 exact z0X (by omega)
theorem z95 {s : Bs} {n i : Nat} (h : i < n) : pAt (z22 s n) i = pubB s i := by
 simp [pAt, z22, List.getD, List.getElem?_map, List.getElem?_range h]
theorem upN_at {l : List Bs} {n i : Nat} (h : i < n) : pAt (upN l n) i = z14 3 [pAt l (2 * i), pAt l (2 * i + 1)] 16 := by
 simp [pAt, upN, List.getD, List.getElem?_map, List.getElem?_range h]
theorem z3p {l : List Bs} (h : l.length = 16) : ∀ j, (lvlB l j).length = 16 / 2 ^ j
 | 0 => by simpa [lvlB] using h
 | j + 1 => by
   rw [lvlB, zff, z3p h j, Nat.pow_succ, Nat.div_div_eq_div_mul]
theorem z4Z {l : List Bs} (h : ∀ x ∈ l, x.length = 16) : ∀ j, ∀ x ∈ lvlB l j, x.length = 16
 | 0 => h
 | j + 1 => zgr
theorem zi2 {l : List Bs} (h : l.length = 16) {j p : Nat} (hp : p < 16 / 2 ^ (j + 1)) : pAt (lvlB l (j + 1)) p = z14 3 [pAt (lvlB l j) (2 * p), pAt (lvlB l j) (2 * p + 1)] 16 := by
 rw [lvlB]
 refine upN_at ?_
 rw [z3p h j, Nat.div_div_eq_div_mul, ← Nat.pow_succ]
 exact hp
def sbB (text : Bs) : Nat := ((z14 7 [text] 16).getD 0 0).toNat
theorem zfg (t : Bs) : sbB t < 256 := UInt8.toNat_lt _
structure Sg where
 a : Nat
 op : List Bs
 sh : List Bs
 si : List Bs
def sbit (ix b : Nat) : Nat := bitB ix (7 - b)
theorem zbC (ix b : Nat) : sbit ix b < 2 := Nat.mod_lt _ (by omega)
def z3S (seed : Bs) (a ix n : Nat) : List Bs := (List.range n).map fun b => secB seed a b (sbit ix b)
def z3T (seed : Bs) (a ix n : Nat) : List Bs := (List.range n).map fun b => z3z (secB seed a b (1 - sbit ix b))
def z5r (pool : List Bs) (a n : Nat) : List Bs := (List.range n).map fun j => pAt (lvlB pool j) (sib (a / 2 ^ j))
theorem zdA (s : Bs) (a ix n : Nat) : z3S s a ix (n + 1) = z3S s a ix n ++ [secB s a n (sbit ix n)] := by simp [z3S, List.range_succ]
theorem zdB (s : Bs) (a ix n : Nat) : z3T s a ix (n + 1) = z3T s a ix n ++ [z3z (secB s a n (1 - sbit ix n))] := by simp [z3T, List.range_succ]
theorem zdC (l : List Bs) (a n : Nat) : z5r l a (n + 1) = z5r l a n ++ [pAt (lvlB l n) (sib (a / 2 ^ n))] := by simp [z5r, List.range_succ]
theorem zac (s : Bs) (a ix n : Nat) : (z3S s a ix n).length = n := by simp [z3S]
theorem zad (s : Bs) (a ix n : Nat) : (z3T s a ix n).length = n := by simp [z3T]
theorem zae (l : List Bs) (a n : Nat) : (z5r l a n).length = n := by simp [z5r]
theorem zdD {s : Bs} {a ix n : Nat} : ∀ x ∈ z3S s a ix n, x.length = 16 := by
 intro x hx
 simp only [z3S, List.mem_map] at hx
 obtain ⟨i, _, rfl⟩ := hx
 exact z94 _ _ _ _
theorem zdE {s : Bs} {a ix n : Nat} : ∀ x ∈ z3T s a ix n, x.length = 16 := by
 intro x hx
 simp only [z3T, List.mem_map] at hx
 obtain ⟨i, _, rfl⟩ := hx
 exact z6Z _
theorem z1X {l : List Bs} {w i : Nat} (h : ∀ x ∈ l, x.length = w) (hi : i < l.length) : (pAt l i).length = w := by
 simp only [pAt, List.getD, List.getElem?_eq_getElem hi, Option.getD_some]
 exact h _ (List.getElem_mem hi)
theorem zhb {a j : Nat} (ha : a < 16) (hj : j < 4) : sib (a / 2 ^ j) < 16 / 2 ^ j := by
 have h : j = 0 ∨ j = 1 ∨ j = 2 ∨ j = 3 := by omega
 unfold sib
 rcases h with rfl | rfl | rfl | rfl <;> simp <;> split <;> omega
theorem zdF {l : List Bs} {a n : Nat} (hl : l.length = 16) (hw : ∀ x ∈ l, x.length = 16) (ha : a < 16) (hn : n ≤ 4) : ∀ x ∈ z5r l a n, x.length = 16 := by
 intro x hx
 simp only [z5r, List.mem_map, List.mem_range] at hx
 obtain ⟨i, hi, rfl⟩ := hx
 refine z1X (z4Z hw i) ?_
 rw [z3p hl]
 exact zhb ha (by omega)
def z3c (seed : Bs) (pool : List Bs) (a : Nat) (text : Bs) : Sg := ⟨a, z3S seed a (sbB text) 8, z3T seed a (sbB text) 8, z5r pool a 4⟩
def Sg.good (s : Sg) : Prop := s.a < 16 ∧ (s.op.length = 8 ∧ ∀ x ∈ s.op, x.length = 16) ∧ (s.sh.length = 8 ∧ ∀ x ∈ s.sh, x.length = 16) ∧ s.si.length = 4 ∧ ∀ x ∈ s.si, x.length = 16
theorem z86 {seed : Bs} {pool : List Bs} {a : Nat} {text : Bs} (hl : pool.length = 16) (hw : ∀ x ∈ pool, x.length = 16) (ha : a < 16) : (z3c seed pool a text).good :=
 ⟨ha, ⟨zac _ _ _ _, zdD⟩, ⟨zad _ _ _ _, zdE⟩, zae _ _ _, zdF hl hw ha (by omega)⟩
def z5O (ix b : Nat) (o s : Bs) : List Bs := if sbit ix b = 0 then [z3z o, s] else [s, z3z o]
def z1y (ix : Nat) (op sh : List Bs) (n : Nat) : List Bs := (List.range n).flatMap fun b => z5O ix b (pAt op b) (pAt sh b)
theorem z3q (ix : Nat) (op sh : List Bs) (n : Nat) : z1y ix op sh (n + 1) = z1y ix op sh n ++ z5O ix n (pAt op n) (pAt sh n) := by simp [z1y, List.range_succ]
theorem zfh (ix b : Nat) (o s : Bs) : (z5O ix b o s).length = 2 := by unfold z5O; split <;> rfl
theorem z2K (ix : Nat) (op sh : List Bs) : ∀ n, (z1y ix op sh n).length = 2 * n
 | 0 => rfl
 | n + 1 => by rw [z3q, List.length_append, z2K ix op sh n, zfh]; omega
theorem zdG {ix b : Nat} {o s : Bs} (h : s.length = 16) : ∀ x ∈ z5O ix b o s, x.length = 16 := by
 have h2 := z6Z o
 intro x hx
 unfold z5O at hx
 generalize z3z o = k at hx h2
 split at hx
 ·rcases List.mem_cons.1 hx with rfl | hx
  ·exact h2
  ·rw [List.mem_singleton.1 hx]; exact h
 ·rcases List.mem_cons.1 hx with rfl | hx
  ·exact h
  ·rw [List.mem_singleton.1 hx]; exact h2
theorem z4r {ix : Nat} {op sh : List Bs} {n : Nat} (h : ∀ x ∈ sh, x.length = 16) (hn : n ≤ sh.length) : ∀ x ∈ z1y ix op sh n, x.length = 16 := by
 intro x hx
 obtain ⟨b, hb, hx⟩ := List.mem_flatMap.1 hx
 have hb := List.mem_range.1 hb
 exact zdG (z1X h (i := b) (by omega)) x hx
def keyV (text : Bs) (s : Sg) : Bs := z14 6 (z1y (sbB text) s.op s.sh 8) 16
def z3A (text : Bs) (s : Sg) : Bs := (z0Y s.a 16 0 (keyV text s) s.si).2
theorem z87 (seed : Bs) (a ix N : Nat) : ∀ n, n ≤ N → z1y ix (z3S seed a ix N) (z3T seed a ix N) n = z2F seed a (2 * n)
 | 0, _ => rfl
 | n + 1, h => by
   have h1 : pAt (z3S seed a ix N) n = secB seed a n (sbit ix n) := by simp [pAt, z3S, List.getD, List.getElem?_map, List.getElem?_range (show n < N by omega)]
   have h2 : pAt (z3T seed a ix N) n = z3z (secB seed a n (1 - sbit ix n)) := by simp [pAt, z3T, List.getD, List.getElem?_map, List.getElem?_range (show n < N by omega)]
   have e1 : 2 * n / 2 = n := by omega
   have e2 : 2 * n % 2 = 0 := by omega
   have e3 : (2 * n + 1) / 2 = n := by omega
   have e4 : (2 * n + 1) % 2 = 1 := by omega
   rw [z3q, z87 seed a ix N n (by omega), show 2 * (n + 1) = 2 * n + 1 + 1 by omega, z4q, z4q, e1, e2, e3, e4, h1, h2, List.append_assoc]
   congr 1
   unfold z5O
   have := zbC ix n
   rcases (by omega : sbit ix n = 0 ∨ sbit ix n = 1) with h | h
   ·rw [if_pos h, h]; rfl
   ·rw [if_neg (by omega), h]; rfl
theorem zaf {l : List Bs} (hl : l.length = 16) {a : Nat} (ha : a < 16) : ∀ (n j : Nat), j + n ≤ 4 → (z0Y a 16 j (pAt (lvlB l j) (a / 2 ^ j)) ((List.range' j n).map fun i => pAt (lvlB l i) (sib (a / 2 ^ i)))).2 = pAt (lvlB l (j + n)) (a / 2 ^ (j + n))
 | 0, j, _ => rfl
 | n + 1, j, hj => by
   rw [List.range'_succ, List.map_cons, z0Y]
   have hp : cutB (tagB 3 (z1p a j (pAt (lvlB l j) (a / 2 ^ j)) (pAt (lvlB l j) (sib (a / 2 ^ j))))) 16 = pAt (lvlB l (j + 1)) (a / 2 ^ (j + 1)) := by
    have hlt : a / 2 ^ (j + 1) < 16 / 2 ^ (j + 1) := by
     rcases (by omega : j = 0 ∨ j = 1 ∨ j = 2 ∨ j = 3) with rfl | rfl | rfl | rfl <;> simp <;> omega
    rw [zi2 hl hlt]
    have e : a / 2 ^ (j + 1) = a / 2 ^ j / 2 := by rw [Nat.pow_succ, Nat.div_div_eq_div_mul]
    unfold z1p bitB z14
    rw [e]
    generalize a / 2 ^ j = q
    by_cases h : q % 2 = 1
    ·have h1 : 2 * (q / 2) + 1 = q := by omega
     have h2 : sib q = 2 * (q / 2) := by unfold sib; rw [if_neg (by omega)]; omega
     rw [if_pos h, h1, h2]
    ·have h1 : 2 * (q / 2) = q := by omega
     have h2 : sib q = 2 * (q / 2) + 1 := by unfold sib; rw [if_pos (by omega)]; omega
     rw [if_neg h, h2, h1]
   simp only
   rw [hp, zaf hl ha n (j + 1) (by omega), show j + 1 + n = j + (n + 1) by omega]
theorem zag (seed text : Bs) {a : Nat} (ha : a < 16) : z3A text (z3c seed (z22 seed 16) a text) = z6Y (z22 seed 16) := by
 have hk : keyV text (z3c seed (z22 seed 16) a text) = pAt (lvlB (z22 seed 16) 0) (a / 2 ^ 0) := by
  rw [Nat.pow_zero, Nat.div_one]
  show z14 6 (z1y (sbB text) (z3S seed a (sbB text) 8) (z3T seed a (sbB text) 8) 8) 16 = pAt (z22 seed 16) a
  rw [z87 seed a (sbB text) 8 8 (by omega), z95 ha]; rfl
 have hf := zaf (z3R seed 16) ha 4 0 (by omega)
 rw [← hk] at hf
 have hs : ((List.range' 0 4).map fun i => pAt (lvlB (z22 seed 16) i) (sib (a / 2 ^ i))) = (z3c seed (z22 seed 16) a text).si := by
  simp [z3c, z5r, List.range_eq_range']
 rw [hs] at hf
 have e0 : a / 2 ^ (0 + 4) = 0 := by simp; omega
 rw [e0] at hf
 exact hf
structure Hd where
 ho : Nat
 ep : Nat
 ro : Bs
 pr : Bs
deriving DecidableEq
def Hd.good (h : Hd) : Prop := h.ho ≤ 2 ∧ 1 ≤ h.ep ∧ h.ep ≤ 4 ∧ h.ro.length = 16 ∧ (if h.ep = 1 then h.pr = [] else h.pr.length = 16)
def z0P (h : Hd) : Bs := [UInt8.ofNat h.ho, UInt8.ofNat h.ep] ++ h.ro ++ h.pr
theorem z0N {h : Hd} (g : h.good) : (z0P h).length ≤ 34 := by
 obtain ⟨_, _, _, h4, h5⟩ := g
 simp only [z0P, List.length_append, List.length_cons, List.length_nil, h4]
 split at h5
 ·rw [h5]; simp
 ·rw [h5]; omega
def z1k (h : Hd) : Bs := z14 4 [z0P h] 16
def z1l (h : Hd) : Bs := z14 8 [z1k h] 16
def sigB (s : Sg) : Bs := [UInt8.ofNat s.a] ++ s.op.flatten ++ s.sh.flatten ++ s.si.flatten
def z12 (h : Hd) (s : Sg) : Bs := z0e (z0P h) ++ sigB s
def hdE (h : Hd) : List T := [.int .i64 (h.ho : Int), .int .i64 (h.ep : Int), .str h.ro, .str h.pr]
def sgE (s : Sg) : List T := [.int .i64 (s.a : Int), .sl 1 (strE s.op), .sl 1 (strE s.sh), .sl 1 (strE s.si)]
def ex4 : List (Nat × Ty) := [
 (31, ⟨4, 48, [.int .i64 0, .int .i64 0, .str [], .str []], .struct [(0, 3), (1, 3), (2, 9), (3, 9)], true⟩),
 (33, ⟨4, 80, [.int .i64 0, .val nilV, .val nilV, .val nilV], .struct [(0, 3), (1, 24), (2, 24), (3, 24)], false⟩),
 (35, ⟨8, 128, [.int .i64 0, .int .i64 0, .str [], .str [], .int .i64 0, .val nilV, .val nilV, .val nilV], .struct [(0, 31), (4, 33)], false⟩),
 (58, ⟨5, 88, [.int .i64 0, .int .i64 0, .val nilV, .val nilV, .val nilV], .struct [(0, 3), (1, 33)], false⟩),
 (26, ⟨3, 40, [.val nilV, .int .i64 0, .int .i64 0], .struct [(0, 24), (1, 3), (2, 3)], false⟩),
 (38, ⟨12, 224, [.val nilV, .val nilV, .val nilV, .int .i64 0, .int .i64 0, .str [], .str [], .int .i64 0, .val nilV, .val nilV, .val nilV, .val nilV], .struct [(0, 29), (2, 24), (3, 35), (11, 36)], false⟩),
 (36, tySl 58),
 (132, tySl 24),
 (3, zg8)]
set_option maxRecDepth 100000 in
set_option maxHeartbeats 4000000 in
theorem zi3 : ∀ p ∈ ex4, TyOk Tryz.prog p.1 p.2 := by
 simp only [ex4, List.forall_mem_cons]
 repeat' (refine And.intro ?_ ?_)
 all_goals first
  | exact (fun _ h => by cases h)
  | exact ⟨⟨_, _, rfl, rfl, rfl, rfl, rfl⟩, ⟨_, rfl, rfl⟩, rfl, rfl, fun h => (Bool.false_ne_true h).elim⟩
  | (refine ⟨⟨_, _, rfl, rfl, rfl, rfl, rfl⟩, ⟨_, rfl, rfl⟩, rfl, rfl, fun _ => ⟨by kernel_rfl, by kernel_rfl, _, rfl, z8m ?_⟩⟩
     repeat (first | exact rfl | (refine And.intro (by decide) (And.intro rfl (And.intro rfl ?_)))))
def ttL4 : List (Nat × Ty) := ttL ++ ex4
def tt4 : TT := lk ttL4
theorem z0d : TtOk Tryz.prog tt4 := fun t y h => by
 have hm : (t, y) ∈ ttL4 := z1P h
 rcases List.mem_append.1 hm with h | h
 ·exact z9Q (t, y) h
 ·exact zi3 (t, y) h
end Go.Proofs.YtgmbkbggnlponaaGreatDoor
namespace Go.Proofs.YtgmbkbggnlponaaGreatDoor
set_option linter.unusedVariables false
set_option linter.unusedSimpArgs false
set_option linter.unusedSectionVars false
open Go.RowKit Pl
theorem z44 (i : Nat) : ([104, 111, 117, 115, 101, UInt8.ofNat (48 + i)] : Bs).length ≤ 100 := by simp
def z26 (i : Nat) : Bs := [104, 111, 117, 115, 101, UInt8.ofNat (48 + i)]
structure Wh where
 B : List Lf
 S : List Bs
 T : List Bs
 hd : Hd
 sg : Sg
 st : List (Nat × Sg)
def stE (l : List (Nat × Sg)) : List (List T) := l.map fun x => T.int .i64 (x.1 : Int) :: sgE x.2
theorem z3V (l : List (Nat × Sg)) : (stE l).length = l.length := by simp [stE]
theorem zbE (l : List (Nat × Sg)) (x : Nat × Sg) : stE (l ++ [x]) = stE l ++ [T.int .i64 (x.1 : Int) :: sgE x.2] := by simp [stE]
def whE (x : Wh) : List T := [.sl 2 (lvE x.B), .sl 1 (strE x.S), .sl 1 (strE x.T)] ++ hdE x.hd ++ sgE x.sg ++ [.sl 5 (stE x.st)]
def z1N (i : Nat) : List Bs := z22 (z26 i) 16
theorem z3W (i : Nat) : (z1N i).length = 16 := z3R _ _
theorem z3d {i : Nat} : ∀ x ∈ z1N i, x.length = 16 := z5q
def z2v (n : Nat) : List (List T) := (List.range n).map fun i => [T.sl 1 (strE (z1N i))]
def z1z (n : Nat) : List Bs := (List.range n).map fun i => z6Y (z1N i)
theorem z2L (n : Nat) : (z2v n).length = n := by simp [z2v]
theorem z45 (n : Nat) : (z1z n).length = n := by simp [z1z]
theorem z72 (n : Nat) : z2v (n + 1) = z2v n ++ [[T.sl 1 (strE (z1N n))]] := by simp [z2v, List.range_succ]
theorem z73 (n : Nat) : z1z (n + 1) = z1z n ++ [z6Y (z1N n)] := by simp [z1z, List.range_succ]
theorem z3e {n i : Nat} (h : i < n) : (z2v n)[i]? = some [T.sl 1 (strE (z1N i))] := by simp [z2v, List.getElem?_map, List.getElem?_range h]
def z2w (i : Nat) (h : Hd) : Sg := z3c (z26 i) (z1N i) (4 * (h.ho + 1) + h.ep - 1) (z1l h)
def z1h (h : Hd) : Nat → List (Nat × Sg)
 | 0 => []
 | n + 1 => z1h h n ++ (if n = h.ho then [] else [(n, z2w n h)])
theorem z4t (h : Hd) : ∀ n, (z1h h n).length ≤ n
 | 0 => by simp [z1h]
 | n + 1 => by
   have := z4t h n
   rw [z1h, List.length_append]
   split <;> simp <;> omega
structure WhD (K need : Nat) (nm : Bs) (L : List Lf) (hd : Hd) : Prop where
 k : K < 3
 n : need < 3
 nok : z1d nm = true
 nl : nm.length ≤ 9
 ok : leavesOk L = true
 sm : Small9 L
 len : L.length ≤ 9
 hgd : hd.good
 ro : hd.ro = z0w L 16 8 0
def whD (K : Nat) (nm : Bs) (L : List Lf) (hd : Hd) : Wh := ⟨z0v L (ixB nm : Int), z18 L 16 (ixB nm) (8 - K), (z18 L 16 (ixB nm) 8).drop (8 - K), hd, z3c (z26 hd.ho) (z1N hd.ho) (hd.ep - 1) (z1k hd), z1h hd 3⟩
def stAt (l : List (Nat × Sg)) (k : Nat) : Nat × Sg := l.getD k (0, ⟨0, [], [], []⟩)
theorem zi5 {l : List (Nat × Sg)} {k : Nat} (h : k < l.length) : (stE l)[k]? = some (T.int .i64 ((stAt l k).1 : Int) :: sgE (stAt l k).2) := by
 simp [stE, stAt, List.getD, List.getElem?_map, List.getElem?_eq_getElem h]
theorem z74 {ix w : Nat} (hw : w ≤ 32) : ∀ (ss : List Bs) (j : Nat) (h : Bs), h.length = w → (z0Y ix w j h ss).2.length = w
 | [], j, h, e => e
 | s :: ss, j, h, e => by
   simp only [z0Y]
   exact z74 hw ss _ _ (z1M hw)
theorem zgw (nm : Bs) (l : List Lf) (s : List Bs) : (z5N nm l s 16).length = 16 := z74 (by omega) s 0 _ (z1M (by omega))
structure WhOk (R : List Bs) (K need : Nat) (nm : Bs) (x : Wh) : Prop where
 rl : R.length = 3
 rw : ∀ y ∈ R, y.length = 16
 k : K < 3
 n : need < 3
 nl : nm.length ≤ 20
 bl : x.B.length ≤ 30
 fit : Fit x.B
 fn : ∀ k, ((lfAt x.B k).1.length : Int) ≤ 100000000
 pf : z1E nm x.B x.S 16 = true
 sl : x.S.length = 8 - K
 tl : x.T.length = K
 tw : ∀ y ∈ x.T, y.length = 16
 hd : x.hd.good
 sg : x.sg.good
 sa : x.sg.a = x.hd.ep - 1
 sr : z3A (z1k x.hd) x.sg = pAt R x.hd.ho
 st : x.st.length = 2
 ris : (stAt x.st 0).1 < (stAt x.st 1).1
 sh : ∀ k, k < 2 → (stAt x.st k).1 ≤ 2 ∧ (stAt x.st k).1 ≠ x.hd.ho ∧ (stAt x.st k).2.good ∧ (stAt x.st k).2.a = 4 * (x.hd.ho + 1) + x.hd.ep - 1 ∧ z3A (z1l x.hd) (stAt x.st k).2 = pAt R (stAt x.st k).1
theorem z1Q {l : List Bs} (h : ∀ x ∈ l, x.length = 16) : l.flatten.length = 16 * l.length := by
 induction l with
 | nil => rfl
 | cons x l ih =>
   have a := ih fun y hy => h y (List.mem_cons_of_mem _ hy)
   have b := h x (by simp)
   simp only [List.flatten_cons, List.length_append, List.length_cons]
   omega
theorem z1Y {s : Sg} (g : s.good) : (sigB s).length = 321 := by
 obtain ⟨h1, ⟨h2, h3⟩, ⟨h4, h5⟩, h6, h7⟩ := g
 have a := z1Q h3
 have b := z1Q h5
 have c := z1Q h7
 simp only [sigB, List.length_append, List.length_cons, List.length_nil]
 omega
theorem z0D {l : Bs} (h : l.length ≤ 100000) : (z0e l).length ≤ l.length + 10 := by
 have := z2G (l := l) (by omega)
 omega
namespace wh
set_option linter.unusedVariables false
set_option linter.unusedSimpArgs false
set_option linter.unusedSectionVars false
theorem bucket_ok {l : List Lf} {ix : Int} (h : leavesOk l = true) : leavesOk (z0v l ix) = true := by
 obtain ⟨h1, h2, h3⟩ := z0K h
 exact z9S (Nat.le_trans (List.length_filter_le _ _) h1) (fun x hx => h2 x (List.mem_filter.1 hx).1) (h3.filter _)
theorem bucket_same (l : List Lf) (ix : Int) : z0v (z0v l ix) ix = z0v l ix := by
 unfold z0v
 rw [List.filter_filter]
 apply List.filter_congr
 intro x _
 simp
end wh
theorem zdL (i : Nat) : (z6Y (z1N i)).length = 16 := by
 unfold z6Y
 exact z1X (z4Z z3d 4) (by rw [z3p (z3W i)]; decide)
theorem zbF {n : Nat} : ∀ y ∈ z1z n, y.length = 16 := by
 intro y hy
 simp only [z1z, List.mem_map] at hy
 obtain ⟨i, _, rfl⟩ := hy
 exact zdL i
theorem z75 {n i : Nat} (h : i < n) : pAt (z1z n) i = z6Y (z1N i) := by
 simp [pAt, z1z, List.getD, List.getElem?_map, List.getElem?_range h]
theorem zdM (h : Hd) (g : h.ho ≤ 2) : ∃ a b, a < b ∧ b ≤ 2 ∧ a ≠ h.ho ∧ b ≠ h.ho ∧ z1h h 3 = [(a, z2w a h), (b, z2w b h)] := by
 rcases (by omega : h.ho = 0 ∨ h.ho = 1 ∨ h.ho = 2) with e | e | e
 ·exact ⟨1, 2, by omega, by omega, by omega, by omega, by simp [z1h, e]⟩
 ·exact ⟨0, 2, by omega, by omega, by omega, by omega, by simp [z1h, e]⟩
 ·exact ⟨0, 1, by omega, by omega, by omega, by omega, by simp [z1h, e]⟩
theorem z76 {i : Nat} {h : Hd} (g : h.good) : (z2w i h).good :=
 z86 (z3W i) z3d (by have := g.1; have := g.2.1; have := g.2.2.1; omega)
theorem z77 {i : Nat} {h : Hd} (g : h.good) : z3A (z1l h) (z2w i h) = z6Y (z1N i) :=
 zag (z26 i) (z1l h) (by have := g.1; have := g.2.1; have := g.2.2.1; omega)
theorem zgx {L : List Lf} {nm : Bs} (n : Nat) (hn8 : n ≤ 8) (hL : leavesOk L = true) (hn : z1d nm = true) :
 z1E nm (z0v L (ixB nm : Int)) (z18 L 16 (ixB nm) n) 16 = true ∧ z0J (z0v L (ixB nm : Int)) (z18 L 16 (ixB nm) n) 16 = true := by
 have hB := wh.bucket_ok (ix := (ixB nm : Int)) hL
 have hw := z4o (l := L) (w := 16) (ix := ixB nm) (n := n) (by omega)
 have hl := z3a L 16 (ixB nm) n
 have hall : ((z18 L 16 (ixB nm) n).all fun x => decide ((x.length : Int) = 16)) = true := List.all_eq_true.2 fun x hx => decide_eq_true (by have := hw x hx; omega)
 refine ⟨?_, z1o.2 ⟨hB, by omega, fun x hx => by have := hw x hx; omega, by omega, by omega⟩⟩
 unfold z1E
 rw [hn, hB, hall, wh.bucket_same, hl, decide_eq_true hn8, decide_eq_true rfl]
 rfl
theorem whD_ok {K need : Nat} {nm : Bs} {L : List Lf} {hd : Hd} (d : WhD K need nm L hd) : WhOk (z1z 3) K need nm (whD K nm L hd) := by
 obtain ⟨a, b, hab, hb2, ha, hb, hst⟩ := zdM hd d.hgd.1
 have hB := wh.bucket_ok (ix := (ixB nm : Int)) d.ok
 have hBl : (z0v L (ixB nm : Int)).length ≤ 9 := Nat.le_trans (List.length_filter_le _ _) d.len
 have hk := d.k
 have hnl := d.nl
 have hg := d.hgd
 have hho := hg.1
 have he1 := hg.2.1
 have he4 := hg.2.2.1
 have hstx : (whD K nm L hd).st = [(a, z2w a hd), (b, z2w b hd)] := hst
 exact {
  rl := z45 3, rw := zbF, k := hk, n := d.n, nl := by omega
  bl := by show (z0v L (ixB nm : Int)).length ≤ 30; omega
  fit := (zcD hB).fit, fn := z5o hB
  pf := (zgx (8 - K) (by omega) d.ok d.nok).1
  sl := z3a _ _ _ _
  tl := by
   show ((z18 L 16 (ixB nm) 8).drop (8 - K)).length = K
   rw [List.length_drop, z3a]; omega
  tw := fun y hy => z4o (by omega) y (List.mem_of_mem_drop hy)
  hd := hg
  sg := z86 (z3W _) z3d (by omega)
  sa := rfl
  sr := by
   show z3A (z1k hd) (z3c (z26 hd.ho) (z1N hd.ho) (hd.ep - 1) (z1k hd)) = pAt (z1z 3) hd.ho
   rw [z75 (by omega)]
   exact zag (z26 hd.ho) (z1k hd) (by omega)
  st := by rw [hstx]; rfl
  ris := by rw [hstx]; exact hab
  sh := fun k hk => by
   rw [hstx]
   rcases (by omega : k = 0 ∨ k = 1) with rfl | rfl
   ·refine ⟨by show a ≤ 2; omega, ha, z76 hg, rfl, ?_⟩
    show z3A (z1l hd) (z2w a hd) = pAt (z1z 3) a
    rw [z75 (by omega)]; exact z77 hg
   ·refine ⟨by show b ≤ 2; omega, hb, z76 hg, rfl, ?_⟩
    show z3A (z1l hd) (z2w b hd) = pAt (z1z 3) b
    rw [z75 (by omega)]; exact z77 hg }
theorem z3r {t : Bs} {p n : Nat} {l r : Bs} (hn : l.length = n) (h : t.drop p = l ++ r) : z0p t p false n = (l, p + n, false) := by
 have h2 := congrArg List.length h
 simp only [List.length_drop, List.length_append] at h2
 rw [z0p, if_neg (by simp; omega), h, List.take_left' hn]
theorem z0x {t : Bs} {p n : Nat} {l r : Bs} (hn : l.length = n) (h : t.drop p = l ++ r) : t.drop (p + n) = r := by
 rw [← List.drop_drop, h, List.drop_left' hn]
theorem z1u {t : Bs} {p n : Nat} {l r : Bs} (hp : p ≤ t.length) (hn : l.length = n) (h : t.drop p = l ++ r) : p + n ≤ t.length := by
 have h2 := congrArg List.length h
 simp only [List.length_drop, List.length_append] at h2
 omega
end Go.Proofs.YtgmbkbggnlponaaGreatDoor
namespace Go.Proofs.YtgmbkbggnlponaaGreatDoor
set_option maxRecDepth 100000
set_option maxHeartbeats 4000000
set_option linter.unusedVariables false
set_option linter.unusedSimpArgs false
set_option linter.unusedSectionVars false
open Go.RowKit Pl
attribute [local irreducible] z0t z0u z0y AnsP LeP
theorem z5v (n : Nat) (x : UInt8) (hn : (n : Int) ≤ 100000) : CT Tryz.prog 63 [] [.int .i64 (n : Int), .int .u8 (x.toNat : Int)] (.str (List.replicate n x)) [] := by
 refine z01 z0m 1 rfl Tryz.func63 rfl rfl rfl ?_
 repeat ((try conv => whnf); first | (refine Exists.intro n (And.intro rfl ?_)) | (refine And.intro (by kernel_rfl) ?_) | (refine stpQ ?_))
 refine z0h 0 ⟨[(5, .ref 1)], [(1, some (.row 1 (z0f (List.replicate n x))))], 2⟩ Nat (fun i => ⟨[(0, .int .i64 (n : Int)), (1, .int .u8 (x.toNat : Int)), (5, .ref 1), (6, .int .i64 (i : Int))], [(1, some (.row 1 (z0f (List.replicate i x ++ List.replicate (n - i) 0))))], 2⟩) (fun i => i ≤ n) (fun i => n - i) 0 (by omega) ?_ ?_ ?_
 ·(refine z02 (by rfl) ?_ ?_) <;> (repeat' (first | (exact eqA) | (refine shE ?_) | (refine And.intro ?_ ?_)))
  simp [z0f, z49]
 ·intro i hi
  by_cases hlt : i < n
  ·have hs : List.replicate (n - i) (0 : UInt8) = 0 :: List.replicate (n - (i + 1)) 0 := by rw [show n - i = (n - (i + 1)) + 1 by omega, List.replicate_succ]
   have hlen : (z0f (List.replicate i x ++ List.replicate (n - i) 0)).length = n := by rw [z0F]; simp; omega
   have hset : (List.replicate i x ++ List.replicate (n - i) (0 : UInt8)).set i x = List.replicate (i + 1) x ++ List.replicate (n - (i + 1)) 0 := by
    rw [hs, List.set_append, if_neg (by simp), List.length_replicate, Nat.sub_self, List.set_cons_zero, List.replicate_succ']; simp
   have hst := bset (List.replicate i x ++ List.replicate (n - i) 0) i x
   rw [hset] at hst
   generalize ho : List.replicate i x ++ List.replicate (n - i) (0 : UInt8) = o at hlen hst ⊢
   have g0 := bget (c := o) (i := i) (by rw [← ho]; simp; omega)
   repeat ((try conv => whnf); first | (refine i_lt (by omega) ?_) | (refine Exists.intro _ (And.intro g0 ?_)) | (refine And.intro (by kernel_rfl) ?_) | (refine stpQ ?_))
   refine ⟨i + 1, by omega, by omega, ?_⟩
   rw [← hst]
   (refine z02 (by rfl) ?_ ?_) <;> (repeat' (first | (exact eqA) | (refine shE ?_) | (refine And.intro ?_ ?_))) <;> rfl
  ·have hin : i = n := by omega
   rw [hin]
   repeat ((try conv => whnf); first | (refine And.intro (by kernel_rfl) ?_) | (refine stpQ ?_))
   (refine z02 (by rfl) ?_ ?_) <;> (repeat' (first | (exact eqA) | (refine shE ?_) | (refine And.intro ?_ ?_)))
   simp
 ·generalize List.replicate n x = o
  repeat ((try conv => whnf); first | (refine Exists.intro o (And.intro rfl ?_)) | (refine And.intro (by kernel_rfl) ?_) | (refine stpQ ?_))
  (refine z00 (by rfl) ?_ ?_ (by rfl)) <;> (repeat' (first | (exact eqA) | (refine shE ?_) | (refine And.intro ?_ ?_)))
theorem zbH (l : List Lf) (ix : Int) (hl : (l.length : Int) ≤ 100000000) (hf : ∀ k, ((lfAt l k).1.length : Int) ≤ 100000000) : CT Tryz.prog 155 [] [.sl 2 (lvE l), .int .i64 ix] (.ref 1) [.row 2 (lvE (z0v l ix))] := by
 have hlen := z0Q l
 refine z01 z0m 1 rfl Tryz.func155 rfl rfl rfl ?_
 repeat ((try conv => whnf); first | (refine stpQ ?_))
 refine z0h 0 ⟨[(5, .ref 1)], [(1, some (.row 2 (lvE (z0v l ix))))], 2⟩ Nat (fun k => ⟨[(0, .sl 2 (lvE l)), (1, .int .i64 ix), (5, .ref 1), (6, .int .i64 (k : Int))], [(1, some (.row 2 (lvE (z0v (l.take k) ix))))], 2⟩) (fun k => k ≤ l.length) (fun k => l.length - k) 0 (by omega) ?_ ?_ ?_
 ·(refine z02 (by rfl) ?_ ?_) <;> (repeat' (first | (exact eqA) | (refine shE ?_) | (refine And.intro ?_ ?_))) <;> first | rfl | decide
 ·intro k hk
  by_cases hk2 : k < l.length
  ·have c1 := z25 (lfAt l k).1 (hf k)
   have hnx := z5F (ix := ix) hk2
   have hw : (z0v (l.take k) ix).length ≤ k := Nat.le_trans (List.length_filter_le _ _) (by rw [List.length_take]; omega)
   generalize z0v (l.take k) ix = o at hnx hw ⊢
   have hol := z0Q o
   repeat' (first | ((try conv => whnf); first | (refine Exists.intro l.length (And.intro hlen ?_)) | (refine i_at (z1K hk2) ?_) | (refine ccA ([]) (c1) ?_) | (refine And.intro (by simp [z0Q]; omega) ?_) | (refine stpQ ?_)) | ((try conv => whnf); first | (refine cb_d (fun h => ?_) (fun h => ?_)) | (refine cb_n (fun h => ?_) (fun h => ?_)) | (refine cb (fun h => ?_) (fun h => ?_))))
   all_goals first
    | (exfalso; omega)
    | (refine ⟨k + 1, by omega, by omega, ?_⟩
       rw [hnx]
       (refine z02 (by rfl) ?_ ?_) <;> (repeat' (first | (exact eqA) | (refine shE ?_) | (refine And.intro ?_ ?_)))
       all_goals first
        | (simp_all [lvE]; done)
        | rfl)
  ·obtain rfl : k = l.length := by omega
   rw [List.take_length]
   repeat ((try conv => whnf); first | (refine Exists.intro l.length (And.intro hlen ?_)) | (refine stpQ ?_))
   (refine z02 (by rfl) ?_ ?_) <;> (repeat' (first | (exact eqA) | (refine shE ?_) | (refine And.intro ?_ ?_)))
 ·repeat ((try conv => whnf); first | (refine stpQ ?_))
  (refine z00 (by rfl) ?_ ?_ (by rfl)) <;> (repeat' (first | (exact eqA) | (refine shE ?_) | (refine And.intro ?_ ?_)))
theorem zcM (l : List Lf) (w ix n : Nat) (h : leavesOk l = true) (hw : 1 ≤ w ∧ w ≤ 32) (hix : ix < 256) (hn : n ≤ 8) : CT Tryz.prog 115 [] [.sl 2 (lvE l), .int .i64 (ix : Int), .int .i64 (8 - (n : Int)), .int .i64 (w : Int)] (.ref 1) [.row 1 (strE (z18 l w ix n))] := by
 have h24 := (z0K h).1
 have c0 := z1L l (by omega) (zcD h).fit
 rw [h] at c0
 have c2 : CT Tryz.prog 30 [] [.int .i64 (ix : Int), .int .i64 0, .int .i64 255] (.bool true) [] := by
  have := z10 (ix : Int) 0 255
  rwa [z0r.2 (by omega)] at this
 have c3 : CT Tryz.prog 30 [] [.int .i64 (8 - (n : Int)), .int .i64 0, .int .i64 8] (.bool true) [] := by
  have := z10 (8 - (n : Int)) 0 8
  rwa [z0r.2 (by omega)] at this
 have c4 : CT Tryz.prog 30 [] [.int .i64 (w : Int), .int .i64 1, .int .i64 32] (.bool true) [] := by
  have := z10 (w : Int) 1 32
  rwa [z0r.2 (by omega)] at this
 have c5 := zfd l h
 have c6 := zab w hw
 refine z01 zcB 1 rfl Tryz.func115 rfl rfl rfl ?_
 repeat ((try conv => whnf); first | (refine ccA ([]) (c0) ?_) | (refine ccA ([]) (c2) ?_) | (refine ccA ([]) (c3) ?_) | (refine ccA ([]) (c4) ?_) | (refine ccA ([]) (c5) ?_) | (refine ccA ([]) (c6) ?_) | (refine stpQ ?_))
 refine z0h 0 ⟨[(9, .ref 1)], [(1, some (.row 1 (strE (z18 l w ix n))))], 2⟩ Nat (fun j => ⟨[(1, .int .i64 (ix : Int)), (2, .int .i64 (8 - (n : Int))), (3, .int .i64 (w : Int)), (9, .ref 1), (10, .ref 2), (11, .ref 3), (12, .int .i64 (8 - (j : Int)))], [(1, some (.row 1 (strE (z18 l w ix j)))), (2, some (.row 3 (spE l))), (3, some (.row 1 (strE (empJ w 8))))], 4⟩) (fun j => j ≤ n) (fun j => n - j) 0 (by omega) ?_ ?_ ?_
 ·(refine z02 (by rfl) ?_ ?_) <;> (repeat' (first | (exact eqA) | (refine shE ?_) | (refine And.intro ?_ ?_))) <;> first | rfl | decide
 ·intro j hj
  by_cases hlt : j < n
  ·have hnx := zbp l w ix j
   have hsl := z3a l w ix j
   have e1 : IntKind.i64.wrap (8 - (8 - (j : Int))) = ((j : Nat) : Int) := by rw [wrap_i64 (by omega) (by omega)]; omega
   have e1u := z6W (show j ≤ 8 by omega)
   have e2 := z6R ix j
   obtain ⟨b1, b2, b3⟩ := zf9 hix (show j < 8 by omega)
   have e3 := zcC (ix / 2 ^ j) b3
   have e4 : IntKind.i64.wrap (8 - (j : Int) - 1) = 8 - ((j + 1 : Nat) : Int) := by rw [wrap_i64 (by omega) (by omega)]; omega
   have c1 := z92 w hw j (sib (ix / 2 ^ j)) l h (by omega) b2
   generalize z18 l w ix j = o at hnx hsl ⊢
   generalize empJ w 8 = em at c1 ⊢
   have hol := z0c o
   repeat ((try conv => whnf); first | (refine Exists.intro _ (And.intro e1.symm ?_)) | (refine Exists.intro _ (And.intro e1u.symm ?_)) | (refine And.intro (show _ ≤ (64 : Int) from by omega) ?_) | (refine Exists.intro _ (And.intro e2.symm ?_)) | (refine Exists.intro _ (And.intro e3.symm ?_)) | (refine ccA ([]) (c1) ?_) | (refine And.intro (by simp [z0c]; omega) ?_) | (refine Exists.intro _ (And.intro e4.symm ?_)) | (refine And.intro (by kernel_rfl) ?_) | (refine stpQ ?_))
   refine ⟨j + 1, by omega, by omega, ?_⟩
   rw [hnx]
   (refine z02 (by rfl) ?_ ?_) <;> (repeat' (first | (exact eqA) | (refine shE ?_) | (refine And.intro ?_ ?_)))
   rw [z0R]; rfl
  ·have hje : j = n := by omega
   rw [hje]
   repeat ((try conv => whnf); first | (refine stpQ ?_))
   (refine z02 (by rfl) ?_ ?_) <;> (repeat' (first | (exact eqA) | (refine shE ?_) | (refine And.intro ?_ ?_)))
 ·repeat ((try conv => whnf); first | (refine stpQ ?_))
  (refine z00 (by rfl) ?_ ?_ (by rfl)) <;> (repeat' (first | (exact eqA) | (refine shE ?_) | (refine And.intro ?_ ?_)))
theorem zaq (l : List Lf) (nm : Bs) (w n : Nat) (h : leavesOk l = true) (hnm : z1d nm = true) (hw : 1 ≤ w ∧ w ≤ 32) (hn : n ≤ 8) : CT Tryz.prog 114 [] [.sl 2 (lvE l), .str nm, .int .i64 (8 - (n : Int)), .int .i64 (w : Int)] (.tup [.agg [.ref 1, .ref 2], .bool true]) [.row 2 (lvE (z0v l (ixB nm))), .row 1 (strE (z18 l w (ixB nm) n))] := by
 have hnl := z1B hnm
 have h24 := (z0K h).1
 have c1 := z1L l (by omega) (zcD h).fit
 rw [h] at c1
 have c2 := z6E nm (by omega)
 rw [hnm] at c2
 have c3 : CT Tryz.prog 30 [] [.int .i64 (8 - (n : Int)), .int .i64 0, .int .i64 8] (.bool true) [] := by
  have := z10 (8 - (n : Int)) 0 8
  rwa [z0r.2 (by omega)] at this
 have c4 : CT Tryz.prog 30 [] [.int .i64 (w : Int), .int .i64 1, .int .i64 32] (.bool true) [] := by
  have := z10 (w : Int) 1 32
  rwa [z0r.2 (by omega)] at this
 have c5 := z25 nm (by omega)
 have c6 := zbH l (ixB nm : Int) (by omega) (z5o h)
 have c8 := zcM l w (ixB nm) n h hw (z6J nm) hn
 generalize z0v l (ixB nm : Int) = B at c6 ⊢
 generalize z18 l w (ixB nm) n = S at c8 ⊢
 refine z01 z0m 1 rfl Tryz.func114 rfl rfl rfl ?_
 repeat ((try conv => whnf); first | (refine ccA ([]) (c1) ?_) | (refine ccA ([]) (c2) ?_) | (refine ccA ([]) (c3) ?_) | (refine ccA ([]) (c4) ?_) | (refine ccA ([]) (c5) ?_) | (refine ccA ([]) (c6) ?_) | (refine ccA ([]) (c8) ?_) | (refine And.intro (by kernel_rfl) ?_) | (refine stpQ ?_))
 (refine z00 (by rfl) ?_ ?_ (by rfl)) <;> (repeat' (first | (exact eqA) | (refine shE ?_) | (refine And.intro ?_ ?_)))
theorem zar (l : List Lf) (s : List Bs) (hl : l.length ≤ 1000) (hs : s.length ≤ 1000) : CT Tryz.prog 118 [] [.agg [.sl 2 (lvE l), .sl 1 (strE s)]] (.agg [.ref 1, .ref 2]) [.row 2 (lvE l), .row 1 (strE s)] := by
 have hll := z0Q l
 have hsl := z0c s
 refine z01 z0m 1 rfl Tryz.func118 rfl rfl rfl ?_
 repeat ((try conv => whnf); first | (refine And.intro (by rw [List.length_append, hll]; simp; omega) ?_) | (refine And.intro (by rw [List.length_append, hsl]; simp; omega) ?_) | (refine And.intro (by kernel_rfl) ?_) | (refine stpQ ?_))
 (refine z00 (by rfl) ?_ ?_ (by rfl)) <;> (repeat' (first | (exact eqA) | (refine shE ?_) | (refine And.intro ?_ ?_))) <;> rfl
def PfD (nm : Bs) (B : List Lf) (S : List Bs) : Prop := z1d nm = true ∧ nm.length ≤ 9 ∧ leavesOk B = true ∧ Small9 B ∧ B.length ≤ 9 ∧ S.length ≤ 8 ∧ ∀ x ∈ S, x.length ≤ 32
theorem PfD.sz {nm : Bs} {B : List Lf} {S : List Bs} (h : PfD nm B S) : PfSz nm B S := by
 obtain ⟨_, h2, _, h4, h5, h6, h7⟩ := h
 exact ⟨by omega, by omega, fun x hx => by have := h4 x hx; omega, by omega, fun x hx => by have := h7 x hx; omega⟩
end Go.Proofs.YtgmbkbggnlponaaGreatDoor
