/- Plain: one-time keys, pools of them, signatures, heads, seals and stamps. Plain: a complete proof, right as it is drawn, and its text. Functions by content: drawn proofs. -/
import Derived.Test.YtnhcfmmdaihneaaGreatDoorTt
import Derived.Test.YtnhcfmmdaihneaaGreatDoorFc
namespace Go.Proofs.YtnhcfmmdaihneaaGreatDoor
set_option linter.unusedVariables false
set_option linter.unusedSimpArgs false
set_option linter.unusedSectionVars false
open Go.RowKit Pl
def secB (seed : Bs) (a b v : Nat) : Bs := z2x 5 [seed, [UInt8.ofNat a, UInt8.ofNat b, UInt8.ofNat v]] 16
def z7o (s : Bs) : Bs := z2x 6 [s] 16
def z1H (seed : Bs) (a n : Nat) : List Bs := (List.range n).map fun i => z7o (secB seed a (i / 2) (i % 2))
def pubB (seed : Bs) (a : Nat) : Bs := z2x 6 (z1H seed a 16) 16
def z1c (seed : Bs) (n : Nat) : List Bs := (List.range n).map (pubB seed)
theorem zdI (s : Bs) (a b v : Nat) : (secB s a b v).length = 16 := z5b (by omega)
theorem zgV (s : Bs) : (z7o s).length = 16 := z5b (by omega)
theorem ziW (s : Bs) (a : Nat) : (pubB s a).length = 16 := z5b (by omega)
theorem z48 (s : Bs) (a n : Nat) : (z1H s a n).length = n := by simp [z1H]
theorem z1D (s : Bs) (n : Nat) : (z1c s n).length = n := by simp [z1c]
theorem z7p (s : Bs) (a n : Nat) : z1H s a (n + 1) = z1H s a n ++ [z7o (secB s a (n / 2) (n % 2))] := by simp [z1H, List.range_succ]
theorem z8t (s : Bs) (n : Nat) : z1c s (n + 1) = z1c s n ++ [pubB s n] := by simp [z1c, List.range_succ]
theorem z7q {s : Bs} {a n : Nat} : ∀ x ∈ z1H s a n, x.length = 16 := by
 intro x hx
 simp only [z1H, List.mem_map] at hx
 obtain ⟨i, _, rfl⟩ := hx
 exact zgV _
theorem z5K {s : Bs} {n : Nat} : ∀ x ∈ z1c s n, x.length = 16 := by
 intro x hx
 simp only [z1c, List.mem_map] at hx
 obtain ⟨i, _, rfl⟩ := hx
 exact ziW _ _
def sbB (text : Bs) : Nat := ((z2x 7 [text] 16).getD 0 0).toNat
structure Sg where
 a : Nat
 op : List Bs
 sh : List Bs
 si : List Bs
def sbit (ix b : Nat) : Nat := bitB ix (7 - b)
def Sg.good (s : Sg) : Prop := s.a < 16 ∧ (s.op.length = 8 ∧ ∀ x ∈ s.op, x.length = 16) ∧ (s.sh.length = 8 ∧ ∀ x ∈ s.sh, x.length = 16) ∧ s.si.length = 4 ∧ ∀ x ∈ s.si, x.length = 16
def pairL (ix b : Nat) (o s : Bs) : List Bs := if sbit ix b = 0 then [z7o o, s] else [s, z7o o]
def locksV (ix : Nat) (op sh : List Bs) (n : Nat) : List Bs := (List.range n).flatMap fun b => pairL ix b (pAt op b) (pAt sh b)
def keyV (text : Bs) (s : Sg) : Bs := z2x 6 (locksV (sbB text) s.op s.sh 8) 16
def rootV (text : Bs) (s : Sg) : Bs := (zbW s.a 16 0 (keyV text s) s.si).2
structure Hd where
 ho : Nat
 ep : Nat
 ro : Bs
 pr : Bs
deriving DecidableEq
def Hd.good (h : Hd) : Prop := h.ho ≤ 2 ∧ 1 ≤ h.ep ∧ h.ep ≤ 4 ∧ h.ro.length = 16 ∧ (if h.ep = 1 then h.pr = [] else h.pr.length = 16)
def z1o (h : Hd) : Bs := [UInt8.ofNat h.ho, UInt8.ofNat h.ep] ++ h.ro ++ h.pr
theorem z3d {h : Hd} (g : h.good) : (z1o h).length ≤ 34 := by
 obtain ⟨_, _, _, h4, h5⟩ := g
 simp only [z1o, List.length_append, List.length_cons, List.length_nil, h4]
 split at h5
 ·rw [h5]; simp
 ·rw [h5]; omega
def z7r (h : Hd) : Bs := z2x 4 [z1o h] 16
def stampB (h : Hd) : Bs := z2x 8 [z7r h] 16
def sigB (s : Sg) : Bs := [UInt8.ofNat s.a] ++ s.op.flatten ++ s.sh.flatten ++ s.si.flatten
def z5L (h : Hd) (s : Sg) : Bs := z0v (z1o h) ++ sigB s
def hdE (h : Hd) : List T := [.int .i64 (h.ho : Int), .int .i64 (h.ep : Int), .str h.ro, .str h.pr]
def sgE (s : Sg) : List T := [.int .i64 (s.a : Int), .sl 1 (strE s.op), .sl 1 (strE s.sh), .sl 1 (strE s.si)]
def ex4 : List (Nat × Ty) := [
 (163, ⟨4, 48, [.int .i64 0, .int .i64 0, .str [], .str []], .struct [(0, 3), (1, 3), (2, 9), (3, 9)], true⟩),
 (165, ⟨4, 80, [.int .i64 0, .val nilV, .val nilV, .val nilV], .struct [(0, 3), (1, 22), (2, 22), (3, 22)], false⟩),
 (167, ⟨8, 128, [.int .i64 0, .int .i64 0, .str [], .str [], .int .i64 0, .val nilV, .val nilV, .val nilV], .struct [(0, 163), (4, 165)], false⟩),
 (188, ⟨5, 88, [.int .i64 0, .int .i64 0, .val nilV, .val nilV, .val nilV], .struct [(0, 3), (1, 165)], false⟩),
 (3, zkz)]
set_option maxRecDepth 100000 in
set_option maxHeartbeats 4000000 in
theorem zkZ : ∀ p ∈ ex4, TyOk Tryz.prog p.1 p.2 := by
 simp only [ex4, List.forall_mem_cons]
 repeat' (refine And.intro ?_ ?_)
 all_goals first
  | exact (fun _ h => by cases h)
  | exact ⟨⟨_, _, rfl, rfl, rfl, rfl, rfl⟩, ⟨_, rfl, rfl⟩, rfl, rfl, fun h => (Bool.false_ne_true h).elim⟩
  | (refine ⟨⟨_, _, rfl, rfl, rfl, rfl, rfl⟩, ⟨_, rfl, rfl⟩, rfl, rfl, fun _ => ⟨by kernel_rfl, by kernel_rfl, _, rfl, z8C ?_⟩⟩
     repeat (first | exact rfl | (refine And.intro (by decide) (And.intro rfl (And.intro rfl ?_)))))
def ttL4 : List (Nat × Ty) := ttL ++ ex4
def tt4 : TT := lk ttL4
theorem z3e : TtOk Tryz.prog tt4 := fun t y h => by
 have hm : (t, y) ∈ ttL4 := z1M h
 rcases List.mem_append.1 hm with h | h
 ·exact zdg (t, y) h
 ·exact zkZ (t, y) h
end Go.Proofs.YtnhcfmmdaihneaaGreatDoor
namespace Go.Proofs.YtnhcfmmdaihneaaGreatDoor
set_option linter.unusedVariables false
set_option linter.unusedSimpArgs false
set_option linter.unusedSectionVars false
open Go.RowKit Pl
theorem z9i (i : Nat) : ([104, 111, 117, 115, 101, UInt8.ofNat (48 + i)] : Bs).length ≤ 100 := by simp
def z2U (i : Nat) : Bs := [104, 111, 117, 115, 101, UInt8.ofNat (48 + i)]
structure Wh where
 B : List Lf
 S : List Bs
 T : List Bs
 hd : Hd
 sg : Sg
 st : List (Nat × Sg)
structure WhD (K need : Nat) (nm : Bs) (L : List Lf) (hd : Hd) : Prop where
 k : K < 3
 n : need < 3
 nok : z1j nm = true
 nl : nm.length ≤ 9
 ok : z0k L = true
 sm : Small9 L
 len : L.length ≤ 9
 hgd : hd.good
 ro : hd.ro = zkM L 16 8 0
def stAt (l : List (Nat × Sg)) (k : Nat) : Nat × Sg := l.getD k (0, ⟨0, [], [], []⟩)
structure WhOk (R : List Bs) (K need : Nat) (nm : Bs) (x : Wh) : Prop where
 rl : R.length = 3
 rw : ∀ y ∈ R, y.length = 16
 k : K < 3
 n : need < 3
 nl : nm.length ≤ 20
 bl : x.B.length ≤ 30
 fit : Fit x.B
 fn : ∀ k, ((lfAt x.B k).1.length : Int) ≤ 100000000
 pf : pfGood nm x.B x.S 16 = true
 sl : x.S.length = 8 - K
 tl : x.T.length = K
 tw : ∀ y ∈ x.T, y.length = 16
 hd : x.hd.good
 sg : x.sg.good
 sa : x.sg.a = x.hd.ep - 1
 sr : rootV (z7r x.hd) x.sg = pAt R x.hd.ho
 st : x.st.length = 2
 ris : (stAt x.st 0).1 < (stAt x.st 1).1
 sh : ∀ k, k < 2 → (stAt x.st k).1 ≤ 2 ∧ (stAt x.st k).1 ≠ x.hd.ho ∧ (stAt x.st k).2.good ∧ (stAt x.st k).2.a = 4 * (x.hd.ho + 1) + x.hd.ep - 1 ∧ rootV (stampB x.hd) (stAt x.st k).2 = pAt R (stAt x.st k).1
theorem z4h {l : List Bs} (h : ∀ x ∈ l, x.length = 16) : l.flatten.length = 16 * l.length := by
 induction l with
 | nil => rfl
 | cons x l ih =>
   have a := ih fun y hy => h y (List.mem_cons_of_mem _ hy)
   have b := h x (by simp)
   simp only [List.flatten_cons, List.length_append, List.length_cons]
   omega
theorem z9j {s : Sg} (g : s.good) : (sigB s).length = 321 := by
 obtain ⟨h1, ⟨h2, h3⟩, ⟨h4, h5⟩, h6, h7⟩ := g
 have a := z4h h3
 have b := z4h h5
 have c := z4h h7
 simp only [sigB, List.length_append, List.length_cons, List.length_nil]
 omega
namespace wh
set_option linter.unusedVariables false
set_option linter.unusedSimpArgs false
set_option linter.unusedSectionVars false
end wh
theorem z7t {t : Bs} {p n : Nat} {l r : Bs} (hn : l.length = n) (h : t.drop p = l ++ r) : z0E t p false n = (l, p + n, false) := by
 have h2 := congrArg List.length h
 simp only [List.length_drop, List.length_append] at h2
 rw [z0E, if_neg (by simp; omega), h, List.take_left' hn]
theorem z2O {t : Bs} {p n : Nat} {l r : Bs} (hn : l.length = n) (h : t.drop p = l ++ r) : t.drop (p + n) = r := by
 rw [← List.drop_drop, h, List.drop_left' hn]
theorem z4D {t : Bs} {p n : Nat} {l r : Bs} (hp : p ≤ t.length) (hn : l.length = n) (h : t.drop p = l ++ r) : p + n ≤ t.length := by
 have h2 := congrArg List.length h
 simp only [List.length_drop, List.length_append] at h2
 omega
end Go.Proofs.YtnhcfmmdaihneaaGreatDoor
namespace Go.Proofs.YtnhcfmmdaihneaaGreatDoor
set_option linter.unusedVariables false
set_option linter.unusedSimpArgs false
set_option linter.unusedSectionVars false
open Go.RowKit Pl
attribute [local irreducible] z0w z0x z0A AnsP LeP
def PfD (nm : Bs) (B : List Lf) (S : List Bs) : Prop := z1j nm = true ∧ nm.length ≤ 9 ∧ z0k B = true ∧ Small9 B ∧ B.length ≤ 9 ∧ S.length ≤ 8 ∧ ∀ x ∈ S, x.length ≤ 32
theorem PfD.sz {nm : Bs} {B : List Lf} {S : List Bs} (h : PfD nm B S) : PfSz nm B S := by
 obtain ⟨_, h2, _, h4, h5, h6, h7⟩ := h
 exact ⟨by omega, by omega, fun x hx => by have := h4 x hx; omega, by omega, fun x hx => by have := h7 x hx; omega⟩
end Go.Proofs.YtnhcfmmdaihneaaGreatDoor
