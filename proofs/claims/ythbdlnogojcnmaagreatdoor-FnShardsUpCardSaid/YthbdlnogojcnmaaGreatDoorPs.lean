/- Plain: one-time keys, pools of them, signatures, heads, seals and stamps. Plain: a complete proof, right as it is drawn, and its text. Functions by content: drawn proofs. -/
import Derived.Test.YthbdlnogojcnmaaGreatDoorTt
import Derived.Test.YthbdlnogojcnmaaGreatDoorFc
namespace Go.Proofs.YthbdlnogojcnmaaGreatDoor
set_option linter.unusedVariables false
set_option linter.unusedSimpArgs false
set_option linter.unusedSectionVars false
open Go.RowKit Pl
def lockB (s : Bs) : Bs := z2X 6 [s] 16
def sbB (text : Bs) : Nat := ((z2X 7 [text] 16).getD 0 0).toNat
structure Sg where
 a : Nat
 op : List Bs
 sh : List Bs
 si : List Bs
def sbit (ix b : Nat) : Nat := bitB ix (7 - b)
def Sg.good (s : Sg) : Prop := s.a < 16 ∧ (s.op.length = 8 ∧ ∀ x ∈ s.op, x.length = 16) ∧ (s.sh.length = 8 ∧ ∀ x ∈ s.sh, x.length = 16) ∧ s.si.length = 4 ∧ ∀ x ∈ s.si, x.length = 16
def pairL (ix b : Nat) (o s : Bs) : List Bs := if sbit ix b = 0 then [lockB o, s] else [s, lockB o]
def locksV (ix : Nat) (op sh : List Bs) (n : Nat) : List Bs := (List.range n).flatMap fun b => pairL ix b (pAt op b) (pAt sh b)
def keyV (text : Bs) (s : Sg) : Bs := z2X 6 (locksV (sbB text) s.op s.sh 8) 16
def rootV (text : Bs) (s : Sg) : Bs := (z9T s.a 16 0 (keyV text s) s.si).2
structure Hd where
 ho : Nat
 ep : Nat
 ro : Bs
 pr : Bs
deriving DecidableEq
def Hd.good (h : Hd) : Prop := h.ho ≤ 2 ∧ 1 ≤ h.ep ∧ h.ep ≤ 4 ∧ h.ro.length = 16 ∧ (if h.ep = 1 then h.pr = [] else h.pr.length = 16)
def headB (h : Hd) : Bs := [UInt8.ofNat h.ho, UInt8.ofNat h.ep] ++ h.ro ++ h.pr
def zhi (h : Hd) : Bs := z2X 4 [headB h] 16
def stampB (h : Hd) : Bs := z2X 8 [zhi h] 16
end Go.Proofs.YthbdlnogojcnmaaGreatDoor
namespace Go.Proofs.YthbdlnogojcnmaaGreatDoor
set_option linter.unusedVariables false
set_option linter.unusedSimpArgs false
set_option linter.unusedSectionVars false
open Go.RowKit Pl
structure Wh where
 B : List Lf
 S : List Bs
 T : List Bs
 hd : Hd
 sg : Sg
 st : List (Nat × Sg)
structure WhD (K need : Nat) (nm : Bs) (L : List Lf) (hd : Hd) : Prop where
 k : K < 3
 n : need < 3
 nok : z10 nm = true
 nl : nm.length ≤ 9
 ok : z0f L = true
 sm : Small9 L
 len : L.length ≤ 9
 hgd : hd.good
 ro : hd.ro = z0J L 16 8 0
def stAt (l : List (Nat × Sg)) (k : Nat) : Nat × Sg := l.getD k (0, ⟨0, [], [], []⟩)
structure WhOk (R : List Bs) (K need : Nat) (nm : Bs) (x : Wh) : Prop where
 rl : R.length = 3
 rw : ∀ y ∈ R, y.length = 16
 k : K < 3
 n : need < 3
 nl : nm.length ≤ 20
 bl : x.B.length ≤ 30
 fit : Fit x.B
 fn : ∀ k, ((lfAt x.B k).1.length : Int) ≤ 100000000
 pf : pfGood nm x.B x.S 16 = true
 sl : x.S.length = 8 - K
 tl : x.T.length = K
 tw : ∀ y ∈ x.T, y.length = 16
 hd : x.hd.good
 sg : x.sg.good
 sa : x.sg.a = x.hd.ep - 1
 sr : rootV (zhi x.hd) x.sg = pAt R x.hd.ho
 st : x.st.length = 2
 ris : (stAt x.st 0).1 < (stAt x.st 1).1
 sh : ∀ k, k < 2 → (stAt x.st k).1 ≤ 2 ∧ (stAt x.st k).1 ≠ x.hd.ho ∧ (stAt x.st k).2.good ∧ (stAt x.st k).2.a = 4 * (x.hd.ho + 1) + x.hd.ep - 1 ∧ rootV (stampB x.hd) (stAt x.st k).2 = pAt R (stAt x.st k).1
namespace wh
set_option linter.unusedVariables false
set_option linter.unusedSimpArgs false
set_option linter.unusedSectionVars false
end wh
end Go.Proofs.YthbdlnogojcnmaaGreatDoor
namespace Go.Proofs.YthbdlnogojcnmaaGreatDoor
set_option linter.unusedVariables false
set_option linter.unusedSimpArgs false
set_option linter.unusedSectionVars false
open Go.RowKit Pl
attribute [local irreducible] z0p z0r z0y AnsP LeP
def PfD (nm : Bs) (B : List Lf) (S : List Bs) : Prop := z10 nm = true ∧ nm.length ≤ 9 ∧ z0f B = true ∧ Small9 B ∧ B.length ≤ 9 ∧ S.length ≤ 8 ∧ ∀ x ∈ S, x.length ≤ 32
theorem PfD.sz {nm : Bs} {B : List Lf} {S : List Bs} (h : PfD nm B S) : PfSz nm B S := by
 obtain ⟨_, h2, _, h4, h5, h6, h7⟩ := h
 exact ⟨by omega, by omega, fun x hx => by have := h4 x hx; omega, by omega, fun x hx => by have := h7 x hx; omega⟩
end Go.Proofs.YthbdlnogojcnmaaGreatDoor
