/- Plain: one-time keys, pools of them, signatures, heads, seals and stamps. Plain: a complete proof, right as it is drawn, and its text. Functions by content: drawn proofs. -/
import Derived.Test.YtkjjacndfieeoaaGreatDoorTt
import Derived.Test.YtkjjacndfieeoaaGreatDoorFc
namespace Go.Proofs.YtkjjacndfieeoaaGreatDoor
set_option linter.unusedVariables false
set_option linter.unusedSimpArgs false
set_option linter.unusedSectionVars false
open Go.RowKit Pl
def secB (seed : Bs) (a b v : Nat) : Bs := z1a 5 [seed, [UInt8.ofNat a, UInt8.ofNat b, UInt8.ofNat v]] 16
def z30 (s : Bs) : Bs := z1a 6 [s] 16
def z1j (seed : Bs) (a n : Nat) : List Bs := (List.range n).map fun i => z30 (secB seed a (i / 2) (i % 2))
def pubB (seed : Bs) (a : Nat) : Bs := z1a 6 (z1j seed a 16) 16
def z0g (seed : Bs) (n : Nat) : List Bs := (List.range n).map (pubB seed)
def upN (l : List Bs) (n : Nat) : List Bs := (List.range n).map fun i => z1a 3 [pAt l (2 * i), pAt l (2 * i + 1)] 16
def lvlB (l : List Bs) : Nat → List Bs
 | 0 => l
 | j + 1 => upN (lvlB l j) ((lvlB l j).length / 2)
def zfo (l : List Bs) : Bs := pAt (lvlB l 4) 0
theorem z4m (s : Bs) (a b v : Nat) : (secB s a b v).length = 16 := z1q (by omega)
theorem z6r (s : Bs) : (z30 s).length = 16 := z1q (by omega)
theorem z8F (s : Bs) (a : Nat) : (pubB s a).length = 16 := z1q (by omega)
theorem z3u (s : Bs) (a n : Nat) : (z1j s a n).length = n := by simp [z1j]
theorem z0H (s : Bs) (n : Nat) : (z0g s n).length = n := by simp [z0g]
theorem zfp (l : List Bs) (n : Nat) : (upN l n).length = n := by simp [upN]
theorem z2R (s : Bs) (a n : Nat) : z1j s a (n + 1) = z1j s a n ++ [z30 (secB s a (n / 2) (n % 2))] := by simp [z1j, List.range_succ]
theorem z7C (s : Bs) (n : Nat) : z0g s (n + 1) = z0g s n ++ [pubB s n] := by simp [z0g, List.range_succ]
theorem zgY (l : List Bs) (n : Nat) : upN l (n + 1) = upN l n ++ [z1a 3 [pAt l (2 * n), pAt l (2 * n + 1)] 16] := by simp [upN, List.range_succ]
theorem z6s {s : Bs} {a n : Nat} : ∀ x ∈ z1j s a n, x.length = 16 := by
 intro x hx
 simp only [z1j, List.mem_map] at hx
 obtain ⟨i, _, rfl⟩ := hx
 exact z6r _
theorem z2I {s : Bs} {n : Nat} : ∀ x ∈ z0g s n, x.length = 16 := by
 intro x hx
 simp only [z0g, List.mem_map] at hx
 obtain ⟨i, _, rfl⟩ := hx
 exact z8F _ _
theorem zgZ {l : List Bs} {n : Nat} : ∀ x ∈ upN l n, x.length = 16 := by
 intro x hx
 simp only [upN, List.mem_map] at hx
 obtain ⟨i, _, rfl⟩ := hx
 exact z1q (by omega)
theorem z8G {s : Bs} {n i : Nat} (h : i < n) : pAt (z0g s n) i = pubB s i := by
 simp [pAt, z0g, List.getD, List.getElem?_map, List.getElem?_range h]
theorem upN_at {l : List Bs} {n i : Nat} (h : i < n) : pAt (upN l n) i = z1a 3 [pAt l (2 * i), pAt l (2 * i + 1)] 16 := by
 simp [pAt, upN, List.getD, List.getElem?_map, List.getElem?_range h]
theorem z2S {l : List Bs} (h : l.length = 16) : ∀ j, (lvlB l j).length = 16 / 2 ^ j
 | 0 => by simpa [lvlB] using h
 | j + 1 => by
   rw [lvlB, zfp, z2S h j, Nat.pow_succ, Nat.div_div_eq_div_mul]
theorem z4n {l : List Bs} (h : ∀ x ∈ l, x.length = 16) : ∀ j, ∀ x ∈ lvlB l j, x.length = 16
 | 0 => h
 | j + 1 => zgZ
theorem ziO {l : List Bs} (h : l.length = 16) {j p : Nat} (hp : p < 16 / 2 ^ (j + 1)) : pAt (lvlB l (j + 1)) p = z1a 3 [pAt (lvlB l j) (2 * p), pAt (lvlB l j) (2 * p + 1)] 16 := by
 rw [lvlB]
 refine upN_at ?_
 rw [z2S h j, Nat.div_div_eq_div_mul, ← Nat.pow_succ]
 exact hp
def sbB (text : Bs) : Nat := ((z1a 7 [text] 16).getD 0 0).toNat
theorem zfq (t : Bs) : sbB t < 256 := UInt8.toNat_lt _
structure Sg where
 a : Nat
 op : List Bs
 sh : List Bs
 si : List Bs
def sbit (ix b : Nat) : Nat := bitB ix (7 - b)
theorem zaV (ix b : Nat) : sbit ix b < 2 := Nat.mod_lt _ (by omega)
def z2q (seed : Bs) (a ix n : Nat) : List Bs := (List.range n).map fun b => secB seed a b (sbit ix b)
def z2r (seed : Bs) (a ix n : Nat) : List Bs := (List.range n).map fun b => z30 (secB seed a b (1 - sbit ix b))
def z3j (pool : List Bs) (a n : Nat) : List Bs := (List.range n).map fun j => pAt (lvlB pool j) (sib (a / 2 ^ j))
theorem z7D (s : Bs) (a ix n : Nat) : z2q s a ix (n + 1) = z2q s a ix n ++ [secB s a n (sbit ix n)] := by simp [z2q, List.range_succ]
theorem z7E (s : Bs) (a ix n : Nat) : z2r s a ix (n + 1) = z2r s a ix n ++ [z30 (secB s a n (1 - sbit ix n))] := by simp [z2r, List.range_succ]
theorem z7F (l : List Bs) (a n : Nat) : z3j l a (n + 1) = z3j l a n ++ [pAt (lvlB l n) (sib (a / 2 ^ n))] := by simp [z3j, List.range_succ]
theorem z6t (s : Bs) (a ix n : Nat) : (z2q s a ix n).length = n := by simp [z2q]
theorem z6u (s : Bs) (a ix n : Nat) : (z2r s a ix n).length = n := by simp [z2r]
theorem z6v (l : List Bs) (a n : Nat) : (z3j l a n).length = n := by simp [z3j]
theorem zdq {s : Bs} {a ix n : Nat} : ∀ x ∈ z2q s a ix n, x.length = 16 := by
 intro x hx
 simp only [z2q, List.mem_map] at hx
 obtain ⟨i, _, rfl⟩ := hx
 exact z4m _ _ _ _
theorem zdr {s : Bs} {a ix n : Nat} : ∀ x ∈ z2r s a ix n, x.length = 16 := by
 intro x hx
 simp only [z2r, List.mem_map] at hx
 obtain ⟨i, _, rfl⟩ := hx
 exact z6r _
theorem z2u {l : List Bs} {w i : Nat} (h : ∀ x ∈ l, x.length = w) (hi : i < l.length) : (pAt l i).length = w := by
 simp only [pAt, List.getD, List.getElem?_eq_getElem hi, Option.getD_some]
 exact h _ (List.getElem_mem hi)
theorem zfr {a j : Nat} (ha : a < 16) (hj : j < 4) : sib (a / 2 ^ j) < 16 / 2 ^ j := by
 have h : j = 0 ∨ j = 1 ∨ j = 2 ∨ j = 3 := by omega
 unfold sib
 rcases h with rfl | rfl | rfl | rfl <;> simp <;> split <;> omega
theorem zds {l : List Bs} {a n : Nat} (hl : l.length = 16) (hw : ∀ x ∈ l, x.length = 16) (ha : a < 16) (hn : n ≤ 4) : ∀ x ∈ z3j l a n, x.length = 16 := by
 intro x hx
 simp only [z3j, List.mem_map, List.mem_range] at hx
 obtain ⟨i, hi, rfl⟩ := hx
 refine z2u (z4n hw i) ?_
 rw [z2S hl]
 exact zfr ha (by omega)
def z4o (seed : Bs) (pool : List Bs) (a : Nat) (text : Bs) : Sg := ⟨a, z2q seed a (sbB text) 8, z2r seed a (sbB text) 8, z3j pool a 4⟩
def Sg.good (s : Sg) : Prop := s.a < 16 ∧ (s.op.length = 8 ∧ ∀ x ∈ s.op, x.length = 16) ∧ (s.sh.length = 8 ∧ ∀ x ∈ s.sh, x.length = 16) ∧ s.si.length = 4 ∧ ∀ x ∈ s.si, x.length = 16
theorem z7G {seed : Bs} {pool : List Bs} {a : Nat} {text : Bs} (hl : pool.length = 16) (hw : ∀ x ∈ pool, x.length = 16) (ha : a < 16) : (z4o seed pool a text).good :=
 ⟨ha, ⟨z6t _ _ _ _, zdq⟩, ⟨z6u _ _ _ _, zdr⟩, z6v _ _ _, zds hl hw ha (by omega)⟩
def z9K (ix b : Nat) (o s : Bs) : List Bs := if sbit ix b = 0 then [z30 o, s] else [s, z30 o]
def z2v (ix : Nat) (op sh : List Bs) (n : Nat) : List Bs := (List.range n).flatMap fun b => z9K ix b (pAt op b) (pAt sh b)
theorem z3U (ix : Nat) (op sh : List Bs) (n : Nat) : z2v ix op sh (n + 1) = z2v ix op sh n ++ z9K ix n (pAt op n) (pAt sh n) := by simp [z2v, List.range_succ]
theorem zfs (ix b : Nat) (o s : Bs) : (z9K ix b o s).length = 2 := by unfold z9K; split <;> rfl
theorem z4P (ix : Nat) (op sh : List Bs) : ∀ n, (z2v ix op sh n).length = 2 * n
 | 0 => rfl
 | n + 1 => by rw [z3U, List.length_append, z4P ix op sh n, zfs]; omega
theorem zdt {ix b : Nat} {o s : Bs} (h : s.length = 16) : ∀ x ∈ z9K ix b o s, x.length = 16 := by
 have h2 := z6r o
 intro x hx
 unfold z9K at hx
 generalize z30 o = k at hx h2
 split at hx
 ·rcases List.mem_cons.1 hx with rfl | hx
  ·exact h2
  ·rw [List.mem_singleton.1 hx]; exact h
 ·rcases List.mem_cons.1 hx with rfl | hx
  ·exact h
  ·rw [List.mem_singleton.1 hx]; exact h2
theorem zaW {ix : Nat} {op sh : List Bs} {n : Nat} (h : ∀ x ∈ sh, x.length = 16) (hn : n ≤ sh.length) : ∀ x ∈ z2v ix op sh n, x.length = 16 := by
 intro x hx
 obtain ⟨b, hb, hx⟩ := List.mem_flatMap.1 hx
 have hb := List.mem_range.1 hb
 exact zdt (z2u h (i := b) (by omega)) x hx
def keyV (text : Bs) (s : Sg) : Bs := z1a 6 (z2v (sbB text) s.op s.sh 8) 16
def z9L (text : Bs) (s : Sg) : Bs := (z2G s.a 16 0 (keyV text s) s.si).2
theorem z7H (seed : Bs) (a ix N : Nat) : ∀ n, n ≤ N → z2v ix (z2q seed a ix N) (z2r seed a ix N) n = z1j seed a (2 * n)
 | 0, _ => rfl
 | n + 1, h => by
   have h1 : pAt (z2q seed a ix N) n = secB seed a n (sbit ix n) := by simp [pAt, z2q, List.getD, List.getElem?_map, List.getElem?_range (show n < N by omega)]
   have h2 : pAt (z2r seed a ix N) n = z30 (secB seed a n (1 - sbit ix n)) := by simp [pAt, z2r, List.getD, List.getElem?_map, List.getElem?_range (show n < N by omega)]
   have e1 : 2 * n / 2 = n := by omega
   have e2 : 2 * n % 2 = 0 := by omega
   have e3 : (2 * n + 1) / 2 = n := by omega
   have e4 : (2 * n + 1) % 2 = 1 := by omega
   rw [z3U, z7H seed a ix N n (by omega), show 2 * (n + 1) = 2 * n + 1 + 1 by omega, z2R, z2R, e1, e2, e3, e4, h1, h2, List.append_assoc]
   congr 1
   unfold z9K
   have := zaV ix n
   rcases (by omega : sbit ix n = 0 ∨ sbit ix n = 1) with h | h
   ·rw [if_pos h, h]; rfl
   ·rw [if_neg (by omega), h]; rfl
theorem z9M {l : List Bs} (hl : l.length = 16) {a : Nat} (ha : a < 16) : ∀ (n j : Nat), j + n ≤ 4 → (z2G a 16 j (pAt (lvlB l j) (a / 2 ^ j)) ((List.range' j n).map fun i => pAt (lvlB l i) (sib (a / 2 ^ i)))).2 = pAt (lvlB l (j + n)) (a / 2 ^ (j + n))
 | 0, j, _ => rfl
 | n + 1, j, hj => by
   rw [List.range'_succ, List.map_cons, z2G]
   have hp : cutB (tagB 3 (zaN a j (pAt (lvlB l j) (a / 2 ^ j)) (pAt (lvlB l j) (sib (a / 2 ^ j))))) 16 = pAt (lvlB l (j + 1)) (a / 2 ^ (j + 1)) := by
    have hlt : a / 2 ^ (j + 1) < 16 / 2 ^ (j + 1) := by
     rcases (by omega : j = 0 ∨ j = 1 ∨ j = 2 ∨ j = 3) with rfl | rfl | rfl | rfl <;> simp <;> omega
    rw [ziO hl hlt]
    have e : a / 2 ^ (j + 1) = a / 2 ^ j / 2 := by rw [Nat.pow_succ, Nat.div_div_eq_div_mul]
    unfold zaN bitB z1a
    rw [e]
    generalize a / 2 ^ j = q
    by_cases h : q % 2 = 1
    ·have h1 : 2 * (q / 2) + 1 = q := by omega
     have h2 : sib q = 2 * (q / 2) := by unfold sib; rw [if_neg (by omega)]; omega
     rw [if_pos h, h1, h2]
    ·have h1 : 2 * (q / 2) = q := by omega
     have h2 : sib q = 2 * (q / 2) + 1 := by unfold sib; rw [if_pos (by omega)]; omega
     rw [if_neg h, h2, h1]
   simp only
   rw [hp, z9M hl ha n (j + 1) (by omega), show j + 1 + n = j + (n + 1) by omega]
theorem zft (seed text : Bs) {a : Nat} (ha : a < 16) : z9L text (z4o seed (z0g seed 16) a text) = zfo (z0g seed 16) := by
 have hk : keyV text (z4o seed (z0g seed 16) a text) = pAt (lvlB (z0g seed 16) 0) (a / 2 ^ 0) := by
  rw [Nat.pow_zero, Nat.div_one]
  show z1a 6 (z2v (sbB text) (z2q seed a (sbB text) 8) (z2r seed a (sbB text) 8) 8) 16 = pAt (z0g seed 16) a
  rw [z7H seed a (sbB text) 8 8 (by omega), z8G ha]; rfl
 have hf := z9M (z0H seed 16) ha 4 0 (by omega)
 rw [← hk] at hf
 have hs : ((List.range' 0 4).map fun i => pAt (lvlB (z0g seed 16) i) (sib (a / 2 ^ i))) = (z4o seed (z0g seed 16) a text).si := by
  simp [z4o, z3j, List.range_eq_range']
 rw [hs] at hf
 have e0 : a / 2 ^ (0 + 4) = 0 := by simp; omega
 rw [e0] at hf
 exact hf
structure Hd where
 ho : Nat
 ep : Nat
 ro : Bs
 pr : Bs
deriving DecidableEq
def Hd.good (h : Hd) : Prop := h.ho ≤ 2 ∧ 1 ≤ h.ep ∧ h.ep ≤ 4 ∧ h.ro.length = 16 ∧ (if h.ep = 1 then h.pr = [] else h.pr.length = 16)
def z0T (h : Hd) : Bs := [UInt8.ofNat h.ho, UInt8.ofNat h.ep] ++ h.ro ++ h.pr
theorem z1U {h : Hd} (g : h.good) : (z0T h).length ≤ 34 := by
 obtain ⟨_, _, _, h4, h5⟩ := g
 simp only [z0T, List.length_append, List.length_cons, List.length_nil, h4]
 split at h5
 ·rw [h5]; simp
 ·rw [h5]; omega
def z1G (h : Hd) : Bs := z1a 4 [z0T h] 16
def stampB (h : Hd) : Bs := z1a 8 [z1G h] 16
def sigB (s : Sg) : Bs := [UInt8.ofNat s.a] ++ s.op.flatten ++ s.sh.flatten ++ s.si.flatten
def z1C (h : Hd) (s : Sg) : Bs := z0p (z0T h) ++ sigB s
def hdE (h : Hd) : List T := [.int .i64 (h.ho : Int), .int .i64 (h.ep : Int), .str h.ro, .str h.pr]
def sgE (s : Sg) : List T := [.int .i64 (s.a : Int), .sl 1 (strE s.op), .sl 1 (strE s.sh), .sl 1 (strE s.si)]
def ex4 : List (Nat × Ty) := [
 (52, ⟨4, 48, [.int .i64 0, .int .i64 0, .str [], .str []], .struct [(0, 3), (1, 3), (2, 9), (3, 9)], true⟩),
 (54, ⟨4, 80, [.int .i64 0, .val nilV, .val nilV, .val nilV], .struct [(0, 3), (1, 27), (2, 27), (3, 27)], false⟩),
 (56, ⟨8, 128, [.int .i64 0, .int .i64 0, .str [], .str [], .int .i64 0, .val nilV, .val nilV, .val nilV], .struct [(0, 52), (4, 54)], false⟩),
 (3, zgK)]
set_option maxRecDepth 100000 in
set_option maxHeartbeats 4000000 in
theorem ziP : ∀ p ∈ ex4, TyOk Tryz.prog p.1 p.2 := by
 simp only [ex4, List.forall_mem_cons]
 repeat' (refine And.intro ?_ ?_)
 all_goals first
  | exact (fun _ h => by cases h)
  | exact ⟨⟨_, _, rfl, rfl, rfl, rfl, rfl⟩, ⟨_, rfl, rfl⟩, rfl, rfl, fun h => (Bool.false_ne_true h).elim⟩
  | (refine ⟨⟨_, _, rfl, rfl, rfl, rfl, rfl⟩, ⟨_, rfl, rfl⟩, rfl, rfl, fun _ => ⟨by kernel_rfl, by kernel_rfl, _, rfl, z5e ?_⟩⟩
     repeat (first | exact rfl | (refine And.intro (by decide) (And.intro rfl (And.intro rfl ?_)))))
def ttL4 : List (Nat × Ty) := ttL ++ ex4
def tt4 : TT := lk ttL4
theorem z16 : TtOk Tryz.prog tt4 := fun t y h => by
 have hm : (t, y) ∈ ttL4 := z1o h
 rcases List.mem_append.1 hm with h | h
 ·exact z9r (t, y) h
 ·exact ziP (t, y) h
end Go.Proofs.YtkjjacndfieeoaaGreatDoor
namespace Go.Proofs.YtkjjacndfieeoaaGreatDoor
set_option linter.unusedVariables false
set_option linter.unusedSimpArgs false
set_option linter.unusedSectionVars false
open Go.RowKit Pl
theorem z5s (i : Nat) : ([104, 111, 117, 115, 101, UInt8.ofNat (48 + i)] : Bs).length ≤ 100 := by simp
def z0j (i : Nat) : Bs := [104, 111, 117, 115, 101, UInt8.ofNat (48 + i)]
structure Wh where
 B : List Lf
 S : List Bs
 T : List Bs
 hd : Hd
 sg : Sg
 st : List (Nat × Sg)
structure WhD (K need : Nat) (nm : Bs) (L : List Lf) (hd : Hd) : Prop where
 k : K < 3
 n : need < 3
 nok : z4V nm = true
 nl : nm.length ≤ 9
 ok : z0C L = true
 sm : Small9 L
 len : L.length ≤ 9
 hgd : hd.good
 ro : hd.ro = ziA L 16 8 0
def stAt (l : List (Nat × Sg)) (k : Nat) : Nat × Sg := l.getD k (0, ⟨0, [], [], []⟩)
theorem z9N {ix w : Nat} (hw : w ≤ 32) : ∀ (ss : List Bs) (j : Nat) (h : Bs), h.length = w → (z2G ix w j h ss).2.length = w
 | [], j, h, e => e
 | s :: ss, j, h, e => by
   simp only [z2G]
   exact z9N hw ss _ _ (z5o hw)
structure WhOk (R : List Bs) (K need : Nat) (nm : Bs) (x : Wh) : Prop where
 rl : R.length = 3
 rw : ∀ y ∈ R, y.length = 16
 k : K < 3
 n : need < 3
 nl : nm.length ≤ 20
 bl : x.B.length ≤ 30
 fit : Fit x.B
 fn : ∀ k, ((lfAt x.B k).1.length : Int) ≤ 100000000
 pf : pfGood nm x.B x.S 16 = true
 sl : x.S.length = 8 - K
 tl : x.T.length = K
 tw : ∀ y ∈ x.T, y.length = 16
 hd : x.hd.good
 sg : x.sg.good
 sa : x.sg.a = x.hd.ep - 1
 sr : z9L (z1G x.hd) x.sg = pAt R x.hd.ho
 st : x.st.length = 2
 ris : (stAt x.st 0).1 < (stAt x.st 1).1
 sh : ∀ k, k < 2 → (stAt x.st k).1 ≤ 2 ∧ (stAt x.st k).1 ≠ x.hd.ho ∧ (stAt x.st k).2.good ∧ (stAt x.st k).2.a = 4 * (x.hd.ho + 1) + x.hd.ep - 1 ∧ z9L (stampB x.hd) (stAt x.st k).2 = pAt R (stAt x.st k).1
theorem z2J {l : List Bs} (h : ∀ x ∈ l, x.length = 16) : l.flatten.length = 16 * l.length := by
 induction l with
 | nil => rfl
 | cons x l ih =>
   have a := ih fun y hy => h y (List.mem_cons_of_mem _ hy)
   have b := h x (by simp)
   simp only [List.flatten_cons, List.length_append, List.length_cons]
   omega
theorem z4p {s : Sg} (g : s.good) : (sigB s).length = 321 := by
 obtain ⟨h1, ⟨h2, h3⟩, ⟨h4, h5⟩, h6, h7⟩ := g
 have a := z2J h3
 have b := z2J h5
 have c := z2J h7
 simp only [sigB, List.length_append, List.length_cons, List.length_nil]
 omega
theorem z57 {l : Bs} (h : l.length ≤ 100000) : (z0p l).length ≤ l.length + 10 := by
 have := z25 (l := l) (by omega)
 omega
namespace wh
set_option linter.unusedVariables false
set_option linter.unusedSimpArgs false
set_option linter.unusedSectionVars false
end wh
theorem z6w {t : Bs} {p n : Nat} {l r : Bs} (hn : l.length = n) (h : t.drop p = l ++ r) : z0w t p false n = (l, p + n, false) := by
 have h2 := congrArg List.length h
 simp only [List.length_drop, List.length_append] at h2
 rw [z0w, if_neg (by simp; omega), h, List.take_left' hn]
theorem z2m {t : Bs} {p n : Nat} {l r : Bs} (hn : l.length = n) (h : t.drop p = l ++ r) : t.drop (p + n) = r := by
 rw [← List.drop_drop, h, List.drop_left' hn]
theorem z3V {t : Bs} {p n : Nat} {l r : Bs} (hp : p ≤ t.length) (hn : l.length = n) (h : t.drop p = l ++ r) : p + n ≤ t.length := by
 have h2 := congrArg List.length h
 simp only [List.length_drop, List.length_append] at h2
 omega
end Go.Proofs.YtkjjacndfieeoaaGreatDoor
namespace Go.Proofs.YtkjjacndfieeoaaGreatDoor
set_option linter.unusedVariables false
set_option linter.unusedSimpArgs false
set_option linter.unusedSectionVars false
open Go.RowKit Pl
attribute [local irreducible] z0m z0n z0q AnsP LeP
def PfD (nm : Bs) (B : List Lf) (S : List Bs) : Prop := z4V nm = true ∧ nm.length ≤ 9 ∧ z0C B = true ∧ Small9 B ∧ B.length ≤ 9 ∧ S.length ≤ 8 ∧ ∀ x ∈ S, x.length ≤ 32
theorem PfD.sz {nm : Bs} {B : List Lf} {S : List Bs} (h : PfD nm B S) : PfSz nm B S := by
 obtain ⟨_, h2, _, h4, h5, h6, h7⟩ := h
 exact ⟨by omega, by omega, fun x hx => by have := h4 x hx; omega, by omega, fun x hx => by have := h7 x hx; omega⟩
end Go.Proofs.YtkjjacndfieeoaaGreatDoor
