/- Plain: one-time keys, pools of them, signatures, heads, seals and stamps. Plain: a complete proof, right as it is drawn, and its text. Functions by content: drawn proofs. -/
import Derived.Test.YthcfalipgnpelaaGreatDoorTt
import Derived.Test.YthcfalipgnpelaaGreatDoorFc
namespace Go.Proofs.YthcfalipgnpelaaGreatDoor
set_option linter.unusedVariables false
set_option linter.unusedSimpArgs false
set_option linter.unusedSectionVars false
open Go.RowKit Pl
def secB (seed : Bs) (a b v : Nat) : Bs := z1m 5 [seed, [UInt8.ofNat a, UInt8.ofNat b, UInt8.ofNat v]] 16
def z4l (s : Bs) : Bs := z1m 6 [s] 16
def z1S (seed : Bs) (a n : Nat) : List Bs := (List.range n).map fun i => z4l (secB seed a (i / 2) (i % 2))
def pubB (seed : Bs) (a : Nat) : Bs := z1m 6 (z1S seed a 16) 16
def z2B (seed : Bs) (n : Nat) : List Bs := (List.range n).map (pubB seed)
theorem zes (s : Bs) (a b v : Nat) : (secB s a b v).length = 16 := z1e (by omega)
theorem zbq (s : Bs) : (z4l s).length = 16 := z1e (by omega)
theorem z4w (s : Bs) (a n : Nat) : (z1S s a n).length = n := by simp [z1S]
theorem z3E (s : Bs) (n : Nat) : (z2B s n).length = n := by simp [z2B]
theorem z7V (s : Bs) (a n : Nat) : z1S s a (n + 1) = z1S s a n ++ [z4l (secB s a (n / 2) (n % 2))] := by simp [z1S, List.range_succ]
theorem z96 (s : Bs) (n : Nat) : z2B s (n + 1) = z2B s n ++ [pubB s n] := by simp [z2B, List.range_succ]
theorem z7W {s : Bs} {a n : Nat} : ∀ x ∈ z1S s a n, x.length = 16 := by
 intro x hx
 simp only [z1S, List.mem_map] at hx
 obtain ⟨i, _, rfl⟩ := hx
 exact zbq _
def sbB (text : Bs) : Nat := ((z1m 7 [text] 16).getD 0 0).toNat
theorem zl2 (t : Bs) : sbB t < 256 := UInt8.toNat_lt _
structure Sg where
 a : Nat
 op : List Bs
 sh : List Bs
 si : List Bs
def sbit (ix b : Nat) : Nat := bitB ix (7 - b)
theorem zm2 (ix b : Nat) : sbit ix b < 2 := Nat.mod_lt _ (by omega)
theorem z3T {l : List Bs} {w i : Nat} (h : ∀ x ∈ l, x.length = w) (hi : i < l.length) : (pAt l i).length = w := by
 simp only [pAt, List.getD, List.getElem?_eq_getElem hi, Option.getD_some]
 exact h _ (List.getElem_mem hi)
def Sg.good (s : Sg) : Prop := s.a < 16 ∧ (s.op.length = 8 ∧ ∀ x ∈ s.op, x.length = 16) ∧ (s.sh.length = 8 ∧ ∀ x ∈ s.sh, x.length = 16) ∧ s.si.length = 4 ∧ ∀ x ∈ s.si, x.length = 16
def z7X (ix b : Nat) (o s : Bs) : List Bs := if sbit ix b = 0 then [z4l o, s] else [s, z4l o]
def z1O (ix : Nat) (op sh : List Bs) (n : Nat) : List Bs := (List.range n).flatMap fun b => z7X ix b (pAt op b) (pAt sh b)
theorem z51 (ix : Nat) (op sh : List Bs) (n : Nat) : z1O ix op sh (n + 1) = z1O ix op sh n ++ z7X ix n (pAt op n) (pAt sh n) := by simp [z1O, List.range_succ]
theorem zhH (ix b : Nat) (o s : Bs) : (z7X ix b o s).length = 2 := by unfold z7X; split <;> rfl
theorem z2P (ix : Nat) (op sh : List Bs) : ∀ n, (z1O ix op sh n).length = 2 * n
 | 0 => rfl
 | n + 1 => by rw [z51, List.length_append, z2P ix op sh n, zhH]; omega
theorem zfp {ix b : Nat} {o s : Bs} (h : s.length = 16) : ∀ x ∈ z7X ix b o s, x.length = 16 := by
 have h2 := zbq o
 intro x hx
 unfold z7X at hx
 generalize z4l o = k at hx h2
 split at hx
 ·rcases List.mem_cons.1 hx with rfl | hx
  ·exact h2
  ·rw [List.mem_singleton.1 hx]; exact h
 ·rcases List.mem_cons.1 hx with rfl | hx
  ·exact h
  ·rw [List.mem_singleton.1 hx]; exact h2
theorem z52 {ix : Nat} {op sh : List Bs} {n : Nat} (h : ∀ x ∈ sh, x.length = 16) (hn : n ≤ sh.length) : ∀ x ∈ z1O ix op sh n, x.length = 16 := by
 intro x hx
 obtain ⟨b, hb, hx⟩ := List.mem_flatMap.1 hx
 have hb := List.mem_range.1 hb
 exact zfp (z3T h (i := b) (by omega)) x hx
def keyV (text : Bs) (s : Sg) : Bs := z1m 6 (z1O (sbB text) s.op s.sh 8) 16
def z53 (text : Bs) (s : Sg) : Bs := (z28 s.a 16 0 (keyV text s) s.si).2
structure Hd where
 ho : Nat
 ep : Nat
 ro : Bs
 pr : Bs
deriving DecidableEq
def Hd.good (h : Hd) : Prop := h.ho ≤ 2 ∧ 1 ≤ h.ep ∧ h.ep ≤ 4 ∧ h.ro.length = 16 ∧ (if h.ep = 1 then h.pr = [] else h.pr.length = 16)
def z1o (h : Hd) : Bs := [UInt8.ofNat h.ho, UInt8.ofNat h.ep] ++ h.ro ++ h.pr
theorem z3F {h : Hd} (g : h.good) : (z1o h).length ≤ 34 := by
 obtain ⟨_, _, _, h4, h5⟩ := g
 simp only [z1o, List.length_append, List.length_cons, List.length_nil, h4]
 split at h5
 ·rw [h5]; simp
 ·rw [h5]; omega
def z2l (h : Hd) : Bs := z1m 4 [z1o h] 16
def z2n (h : Hd) : Bs := z1m 8 [z2l h] 16
def sigB (s : Sg) : Bs := [UInt8.ofNat s.a] ++ s.op.flatten ++ s.sh.flatten ++ s.si.flatten
def z39 (h : Hd) (s : Sg) : Bs := z0h (z1o h) ++ sigB s
def hdE (h : Hd) : List T := [.int .i64 (h.ho : Int), .int .i64 (h.ep : Int), .str h.ro, .str h.pr]
def sgE (s : Sg) : List T := [.int .i64 (s.a : Int), .sl 1 (strE s.op), .sl 1 (strE s.sh), .sl 1 (strE s.si)]
def ex4 : List (Nat × Ty) := [
 (88, ⟨4, 48, [.int .i64 0, .int .i64 0, .str [], .str []], .struct [(0, 3), (1, 3), (2, 9), (3, 9)], true⟩),
 (78, ⟨4, 80, [.int .i64 0, .val nilV, .val nilV, .val nilV], .struct [(0, 3), (1, 44), (2, 44), (3, 44)], false⟩),
 (90, ⟨8, 128, [.int .i64 0, .int .i64 0, .str [], .str [], .int .i64 0, .val nilV, .val nilV, .val nilV], .struct [(0, 88), (4, 78)], false⟩),
 (80, ⟨5, 88, [.int .i64 0, .int .i64 0, .val nilV, .val nilV, .val nilV], .struct [(0, 3), (1, 78)], false⟩),
 (3, zju)]
set_option maxRecDepth 100000 in
set_option maxHeartbeats 4000000 in
theorem zm3 : ∀ p ∈ ex4, TyOk Tryz.prog p.1 p.2 := by
 simp only [ex4, List.forall_mem_cons]
 repeat' (refine And.intro ?_ ?_)
 all_goals first
  | exact (fun _ h => by cases h)
  | exact ⟨⟨_, _, rfl, rfl, rfl, rfl, rfl⟩, ⟨_, rfl, rfl⟩, rfl, rfl, fun h => (Bool.false_ne_true h).elim⟩
  | (refine ⟨⟨_, _, rfl, rfl, rfl, rfl, rfl⟩, ⟨_, rfl, rfl⟩, rfl, rfl, fun _ => ⟨by kernel_rfl, by kernel_rfl, _, rfl, ?_⟩⟩
     repeat (first | exact rfl | (refine And.intro (by decide) (And.intro rfl (And.intro rfl ?_)))))
def ttL4 : List (Nat × Ty) := ttL ++ ex4
def tt4 : TT := lk ttL4
theorem z1G : TtOk Tryz.prog tt4 := fun t y h => by
 have hm : (t, y) ∈ ttL4 := z2x h
 rcases List.mem_append.1 hm with h | h
 ·exact zaP (t, y) h
 ·exact zm3 (t, y) h
end Go.Proofs.YthcfalipgnpelaaGreatDoor
namespace Go.Proofs.YthcfalipgnpelaaGreatDoor
set_option linter.unusedVariables false
set_option linter.unusedSimpArgs false
set_option linter.unusedSectionVars false
open Go.RowKit Pl
theorem zet (i : Nat) : ([104, 111, 117, 115, 101, UInt8.ofNat (48 + i)] : Bs).length ≤ 100 := by simp
def z3U (i : Nat) : Bs := [104, 111, 117, 115, 101, UInt8.ofNat (48 + i)]
structure Wh where
 B : List Lf
 S : List Bs
 T : List Bs
 hd : Hd
 sg : Sg
 st : List (Nat × Sg)
structure WhD (K need : Nat) (nm : Bs) (L : List Lf) (hd : Hd) : Prop where
 k : K < 3
 n : need < 3
 nok : z1p nm = true
 nl : nm.length ≤ 9
 ok : z06 L = true
 sm : Small9 L
 len : L.length ≤ 9
 hgd : hd.good
 ro : hd.ro = z0U L 16 8 0
def stAt (l : List (Nat × Sg)) (k : Nat) : Nat × Sg := l.getD k (0, ⟨0, [], [], []⟩)
theorem zbv {ix w : Nat} (hw : w ≤ 32) : ∀ (ss : List Bs) (j : Nat) (h : Bs), h.length = w → (z28 ix w j h ss).2.length = w
 | [], j, h, e => e
 | s :: ss, j, h, e => by
   simp only [z28]
   exact zbv hw ss _ _ (z6O hw)
structure WhOk (R : List Bs) (K need : Nat) (nm : Bs) (x : Wh) : Prop where
 rl : R.length = 3
 rw : ∀ y ∈ R, y.length = 16
 k : K < 3
 n : need < 3
 nl : nm.length ≤ 20
 bl : x.B.length ≤ 30
 fit : Fit x.B
 fn : ∀ k, ((lfAt x.B k).1.length : Int) ≤ 100000000
 pf : pfGood nm x.B x.S 16 = true
 sl : x.S.length = 8 - K
 tl : x.T.length = K
 tw : ∀ y ∈ x.T, y.length = 16
 hd : x.hd.good
 sg : x.sg.good
 sa : x.sg.a = x.hd.ep - 1
 sr : z53 (z2l x.hd) x.sg = pAt R x.hd.ho
 st : x.st.length = 2
 ris : (stAt x.st 0).1 < (stAt x.st 1).1
 sh : ∀ k, k < 2 → (stAt x.st k).1 ≤ 2 ∧ (stAt x.st k).1 ≠ x.hd.ho ∧ (stAt x.st k).2.good ∧ (stAt x.st k).2.a = 4 * (x.hd.ho + 1) + x.hd.ep - 1 ∧ z53 (z2n x.hd) (stAt x.st k).2 = pAt R (stAt x.st k).1
theorem z4J {l : List Bs} (h : ∀ x ∈ l, x.length = 16) : l.flatten.length = 16 * l.length := by
 induction l with
 | nil => rfl
 | cons x l ih =>
   have a := ih fun y hy => h y (List.mem_cons_of_mem _ hy)
   have b := h x (by simp)
   simp only [List.flatten_cons, List.length_append, List.length_cons]
   omega
theorem z6R {s : Sg} (g : s.good) : (sigB s).length = 321 := by
 obtain ⟨h1, ⟨h2, h3⟩, ⟨h4, h5⟩, h6, h7⟩ := g
 have a := z4J h3
 have b := z4J h5
 have c := z4J h7
 simp only [sigB, List.length_append, List.length_cons, List.length_nil]
 omega
theorem zmp {l : Bs} (h : l.length ≤ 100000) : (z0h l).length ≤ l.length + 10 := by
 have := z3H (l := l) (by omega)
 omega
namespace wh
set_option linter.unusedVariables false
set_option linter.unusedSimpArgs false
set_option linter.unusedSectionVars false
end wh
theorem z7Z {t : Bs} {p n : Nat} {l r : Bs} (hn : l.length = n) (h : t.drop p = l ++ r) : z0E t p false n = (l, p + n, false) := by
 have h2 := congrArg List.length h
 simp only [List.length_drop, List.length_append] at h2
 rw [z0E, if_neg (by simp; omega), h, List.take_left' hn]
theorem z34 {t : Bs} {p n : Nat} {l r : Bs} (hn : l.length = n) (h : t.drop p = l ++ r) : t.drop (p + n) = r := by
 rw [← List.drop_drop, h, List.drop_left' hn]
theorem z55 {t : Bs} {p n : Nat} {l r : Bs} (hp : p ≤ t.length) (hn : l.length = n) (h : t.drop p = l ++ r) : p + n ≤ t.length := by
 have h2 := congrArg List.length h
 simp only [List.length_drop, List.length_append] at h2
 omega
end Go.Proofs.YthcfalipgnpelaaGreatDoor
namespace Go.Proofs.YthcfalipgnpelaaGreatDoor
set_option linter.unusedVariables false
set_option linter.unusedSimpArgs false
set_option linter.unusedSectionVars false
open Go.RowKit Pl
attribute [local irreducible] z0o z0p z0z AnsP LeP
def PfD (nm : Bs) (B : List Lf) (S : List Bs) : Prop := z1p nm = true ∧ nm.length ≤ 9 ∧ z06 B = true ∧ Small9 B ∧ B.length ≤ 9 ∧ S.length ≤ 8 ∧ ∀ x ∈ S, x.length ≤ 32
theorem PfD.sz {nm : Bs} {B : List Lf} {S : List Bs} (h : PfD nm B S) : PfSz nm B S := by
 obtain ⟨_, h2, _, h4, h5, h6, h7⟩ := h
 exact ⟨by omega, by omega, fun x hx => by have := h4 x hx; omega, by omega, fun x hx => by have := h7 x hx; omega⟩
end Go.Proofs.YthcfalipgnpelaaGreatDoor
