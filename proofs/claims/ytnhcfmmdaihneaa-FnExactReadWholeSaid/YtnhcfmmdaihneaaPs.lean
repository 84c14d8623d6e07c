/- Plain: one-time keys, pools of them, signatures, heads, seals and stamps. Plain: a complete proof, right as it is drawn, and its text. Functions by content: drawn proofs. -/
import Derived.Test.YtnhcfmmdaihneaaTt
import Derived.Test.YtnhcfmmdaihneaaFc
namespace Go.Proofs.Ytnhcfmmdaihneaa
set_option linter.unusedVariables false
set_option linter.unusedSimpArgs false
set_option linter.unusedSectionVars false
open Go.RowKit Pl
def lockB (s : Bs) : Bs := z71 6 [s] 16
def sbB (text : Bs) : Nat := ((z71 7 [text] 16).getD 0 0).toNat
structure Sg where
 a : Nat
 op : List Bs
 sh : List Bs
 si : List Bs
def sbit (ix b : Nat) : Nat := bitB ix (7 - b)
def Sg.good (s : Sg) : Prop := s.a < 16 ∧ (s.op.length = 8 ∧ ∀ x ∈ s.op, x.length = 16) ∧ (s.sh.length = 8 ∧ ∀ x ∈ s.sh, x.length = 16) ∧ s.si.length = 4 ∧ ∀ x ∈ s.si, x.length = 16
def pairL (ix b : Nat) (o s : Bs) : List Bs := if sbit ix b = 0 then [lockB o, s] else [s, lockB o]
def locksV (ix : Nat) (op sh : List Bs) (n : Nat) : List Bs := (List.range n).flatMap fun b => pairL ix b (pAt op b) (pAt sh b)
def keyV (text : Bs) (s : Sg) : Bs := z71 6 (locksV (sbB text) s.op s.sh 8) 16
def rootV (text : Bs) (s : Sg) : Bs := (z7W s.a 16 0 (keyV text s) s.si).2
structure Hd where
 ho : Nat
 ep : Nat
 ro : Bs
 pr : Bs
deriving DecidableEq
def Hd.good (h : Hd) : Prop := h.ho ≤ 2 ∧ 1 ≤ h.ep ∧ h.ep ≤ 4 ∧ h.ro.length = 16 ∧ (if h.ep = 1 then h.pr = [] else h.pr.length = 16)
def z0E (h : Hd) : Bs := [UInt8.ofNat h.ho, UInt8.ofNat h.ep] ++ h.ro ++ h.pr
theorem z0B {h : Hd} (g : h.good) : (z0E h).length ≤ 34 := by
 obtain ⟨_, _, _, h4, h5⟩ := g
 simp only [z0E, List.length_append, List.length_cons, List.length_nil, h4]
 split at h5
 ·rw [h5]; simp
 ·rw [h5]; omega
def zcZ (h : Hd) : Bs := z71 4 [z0E h] 16
def stampB (h : Hd) : Bs := z71 8 [zcZ h] 16
def sigB (s : Sg) : Bs := [UInt8.ofNat s.a] ++ s.op.flatten ++ s.sh.flatten ++ s.si.flatten
def z0F (h : Hd) (s : Sg) : Bs := z09 (z0E h) ++ sigB s
def hdE (h : Hd) : List T := [.int .i64 (h.ho : Int), .int .i64 (h.ep : Int), .str h.ro, .str h.pr]
def sgE (s : Sg) : List T := [.int .i64 (s.a : Int), .sl 1 (strE s.op), .sl 1 (strE s.sh), .sl 1 (strE s.si)]
def ex4 : List (Nat × Ty) := [
 (27, ⟨4, 48, [.int .i64 0, .int .i64 0, .str [], .str []], .struct [(0, 3), (1, 3), (2, 9), (3, 9)], true⟩),
 (29, ⟨4, 80, [.int .i64 0, .val nilV, .val nilV, .val nilV], .struct [(0, 3), (1, 23), (2, 23), (3, 23)], false⟩),
 (31, ⟨8, 128, [.int .i64 0, .int .i64 0, .str [], .str [], .int .i64 0, .val nilV, .val nilV, .val nilV], .struct [(0, 27), (4, 29)], false⟩),
 (53, ⟨5, 88, [.int .i64 0, .int .i64 0, .val nilV, .val nilV, .val nilV], .struct [(0, 3), (1, 29)], false⟩),
 (34, ⟨12, 224, [.val nilV, .val nilV, .val nilV, .int .i64 0, .int .i64 0, .str [], .str [], .int .i64 0, .val nilV, .val nilV, .val nilV, .val nilV], .struct [(0, 25), (2, 23), (3, 31), (11, 32)], false⟩),
 (32, tySl 53),
 (3, zcM)]
set_option maxRecDepth 100000 in
set_option maxHeartbeats 4000000 in
theorem zd0 : ∀ p ∈ ex4, TyOk Try.prog p.1 p.2 := by
 simp only [ex4, List.forall_mem_cons]
 repeat' (refine And.intro ?_ ?_)
 all_goals first
  | exact (fun _ h => by cases h)
  | exact ⟨⟨_, _, rfl, rfl, rfl, rfl, rfl⟩, ⟨_, rfl, rfl⟩, rfl, rfl, fun h => (Bool.false_ne_true h).elim⟩
  | (refine ⟨⟨_, _, rfl, rfl, rfl, rfl, rfl⟩, ⟨_, rfl, rfl⟩, rfl, rfl, fun _ => ⟨by kernel_rfl, by kernel_rfl, _, rfl, z5z ?_⟩⟩
     repeat (first | exact rfl | (refine And.intro (by decide) (And.intro rfl (And.intro rfl ?_)))))
def ttL4 : List (Nat × Ty) := ttL ++ ex4
def tt4 : TT := lk ttL4
theorem z0y : TtOk Try.prog tt4 := fun t y h => by
 have hm : (t, y) ∈ ttL4 := z1n h
 rcases List.mem_append.1 hm with h | h
 ·exact zap (t, y) h
 ·exact zd0 (t, y) h
end Go.Proofs.Ytnhcfmmdaihneaa
namespace Go.Proofs.Ytnhcfmmdaihneaa
set_option linter.unusedVariables false
set_option linter.unusedSimpArgs false
set_option linter.unusedSectionVars false
open Go.RowKit Pl
structure Wh where
 B : List Lf
 S : List Bs
 T : List Bs
 hd : Hd
 sg : Sg
 st : List (Nat × Sg)
def stE (l : List (Nat × Sg)) : List (List T) := l.map fun x => T.int .i64 (x.1 : Int) :: sgE x.2
theorem z7Y (l : List (Nat × Sg)) : (stE l).length = l.length := by simp [stE]
theorem zd1 (l : List (Nat × Sg)) (x : Nat × Sg) : stE (l ++ [x]) = stE l ++ [T.int .i64 (x.1 : Int) :: sgE x.2] := by simp [stE]
def whE (x : Wh) : List T := [.sl 2 (lvE x.B), .sl 1 (strE x.S), .sl 1 (strE x.T)] ++ hdE x.hd ++ sgE x.sg ++ [.sl 5 (stE x.st)]
structure WhD (K need : Nat) (nm : Bs) (L : List Lf) (hd : Hd) : Prop where
 k : K < 3
 n : need < 3
 nok : z1N nm = true
 nl : nm.length ≤ 9
 ok : leavesOk L = true
 sm : Small9 L
 len : L.length ≤ 9
 hgd : hd.good
 ro : hd.ro = zcX L 16 8 0
def stAt (l : List (Nat × Sg)) (k : Nat) : Nat × Sg := l.getD k (0, ⟨0, [], [], []⟩)
structure WhOk (R : List Bs) (K need : Nat) (nm : Bs) (x : Wh) : Prop where
 rl : R.length = 3
 rw : ∀ y ∈ R, y.length = 16
 k : K < 3
 n : need < 3
 nl : nm.length ≤ 20
 bl : x.B.length ≤ 30
 fit : Fit x.B
 fn : ∀ k, ((lfAt x.B k).1.length : Int) ≤ 100000000
 pf : pfGood nm x.B x.S 16 = true
 sl : x.S.length = 8 - K
 tl : x.T.length = K
 tw : ∀ y ∈ x.T, y.length = 16
 hd : x.hd.good
 sg : x.sg.good
 sa : x.sg.a = x.hd.ep - 1
 sr : rootV (zcZ x.hd) x.sg = pAt R x.hd.ho
 st : x.st.length = 2
 ris : (stAt x.st 0).1 < (stAt x.st 1).1
 sh : ∀ k, k < 2 → (stAt x.st k).1 ≤ 2 ∧ (stAt x.st k).1 ≠ x.hd.ho ∧ (stAt x.st k).2.good ∧ (stAt x.st k).2.a = 4 * (x.hd.ho + 1) + x.hd.ep - 1 ∧ rootV (stampB x.hd) (stAt x.st k).2 = pAt R (stAt x.st k).1
theorem z1g {l : List Bs} (h : ∀ x ∈ l, x.length = 16) : l.flatten.length = 16 * l.length := by
 induction l with
 | nil => rfl
 | cons x l ih =>
   have a := ih fun y hy => h y (List.mem_cons_of_mem _ hy)
   have b := h x (by simp)
   simp only [List.flatten_cons, List.length_append, List.length_cons]
   omega
theorem z1F {s : Sg} (g : s.good) : (sigB s).length = 321 := by
 obtain ⟨h1, ⟨h2, h3⟩, ⟨h4, h5⟩, h6, h7⟩ := g
 have a := z1g h3
 have b := z1g h5
 have c := z1g h7
 simp only [sigB, List.length_append, List.length_cons, List.length_nil]
 omega
theorem z0x {l : Bs} (h : l.length ≤ 100000) : (z09 l).length ≤ l.length + 10 := by
 have := z39 (l := l) (by omega)
 omega
namespace wh
set_option linter.unusedVariables false
set_option linter.unusedSimpArgs false
set_option linter.unusedSectionVars false
end wh
theorem z2o {t : Bs} {p n : Nat} {l r : Bs} (hn : l.length = n) (h : t.drop p = l ++ r) : z0h t p false n = (l, p + n, false) := by
 have h2 := congrArg List.length h
 simp only [List.length_drop, List.length_append] at h2
 rw [z0h, if_neg (by simp; omega), h, List.take_left' hn]
theorem z0k {t : Bs} {p n : Nat} {l r : Bs} (hn : l.length = n) (h : t.drop p = l ++ r) : t.drop (p + n) = r := by
 rw [← List.drop_drop, h, List.drop_left' hn]
theorem z0U {t : Bs} {p n : Nat} {l r : Bs} (hp : p ≤ t.length) (hn : l.length = n) (h : t.drop p = l ++ r) : p + n ≤ t.length := by
 have h2 := congrArg List.length h
 simp only [List.length_drop, List.length_append] at h2
 omega
end Go.Proofs.Ytnhcfmmdaihneaa
namespace Go.Proofs.Ytnhcfmmdaihneaa
set_option linter.unusedVariables false
set_option linter.unusedSimpArgs false
set_option linter.unusedSectionVars false
open Go.RowKit Pl
attribute [local irreducible] z0m z0o z0s AnsP LeP
def PfD (nm : Bs) (B : List Lf) (S : List Bs) : Prop := z1N nm = true ∧ nm.length ≤ 9 ∧ leavesOk B = true ∧ Small9 B ∧ B.length ≤ 9 ∧ S.length ≤ 8 ∧ ∀ x ∈ S, x.length ≤ 32
theorem PfD.sz {nm : Bs} {B : List Lf} {S : List Bs} (h : PfD nm B S) : PfSz nm B S := by
 obtain ⟨_, h2, _, h4, h5, h6, h7⟩ := h
 exact ⟨by omega, by omega, fun x hx => by have := h4 x hx; omega, by omega, fun x hx => by have := h7 x hx; omega⟩
end Go.Proofs.Ytnhcfmmdaihneaa
