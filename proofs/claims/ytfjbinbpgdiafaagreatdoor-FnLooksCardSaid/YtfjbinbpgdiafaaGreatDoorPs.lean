/- Plain: one-time keys, pools of them, signatures, heads, seals and stamps. Plain: a complete proof, right as it is drawn, and its text. Functions by content: drawn proofs. -/
import Derived.Test.YtfjbinbpgdiafaaGreatDoorTt
import Derived.Test.YtfjbinbpgdiafaaGreatDoorFc
namespace Go.Proofs.YtfjbinbpgdiafaaGreatDoor
set_option linter.unusedVariables false
set_option linter.unusedSimpArgs false
set_option linter.unusedSectionVars false
open Go.RowKit Pl
def lockB (s : Bs) : Bs := z2H 6 [s] 16
def sbB (text : Bs) : Nat := ((z2H 7 [text] 16).getD 0 0).toNat
structure Sg where
 a : Nat
 op : List Bs
 sh : List Bs
 si : List Bs
def sbit (ix b : Nat) : Nat := bitB ix (7 - b)
def Sg.good (s : Sg) : Prop := s.a < 16 ∧ (s.op.length = 8 ∧ ∀ x ∈ s.op, x.length = 16) ∧ (s.sh.length = 8 ∧ ∀ x ∈ s.sh, x.length = 16) ∧ s.si.length = 4 ∧ ∀ x ∈ s.si, x.length = 16
def pairL (ix b : Nat) (o s : Bs) : List Bs := if sbit ix b = 0 then [lockB o, s] else [s, lockB o]
def locksV (ix : Nat) (op sh : List Bs) (n : Nat) : List Bs := (List.range n).flatMap fun b => pairL ix b (pAt op b) (pAt sh b)
def keyV (text : Bs) (s : Sg) : Bs := z2H 6 (locksV (sbB text) s.op s.sh 8) 16
def rootV (text : Bs) (s : Sg) : Bs := (z2R s.a 16 0 (keyV text s) s.si).2
structure Hd where
 ho : Nat
 ep : Nat
 ro : Bs
 pr : Bs
deriving DecidableEq
def Hd.good (h : Hd) : Prop := h.ho ≤ 2 ∧ 1 ≤ h.ep ∧ h.ep ≤ 4 ∧ h.ro.length = 16 ∧ (if h.ep = 1 then h.pr = [] else h.pr.length = 16)
def headB (h : Hd) : Bs := [UInt8.ofNat h.ho, UInt8.ofNat h.ep] ++ h.ro ++ h.pr
def zhe (h : Hd) : Bs := z2H 4 [headB h] 16
def stampB (h : Hd) : Bs := z2H 8 [zhe h] 16
end Go.Proofs.YtfjbinbpgdiafaaGreatDoor
namespace Go.Proofs.YtfjbinbpgdiafaaGreatDoor
set_option linter.unusedVariables false
set_option linter.unusedSimpArgs false
set_option linter.unusedSectionVars false
open Go.RowKit Pl
structure Wh where
 B : List Lf
 S : List Bs
 T : List Bs
 hd : Hd
 sg : Sg
 st : List (Nat × Sg)
structure WhD (K need : Nat) (nm : Bs) (L : List Lf) (hd : Hd) : Prop where
 k : K < 3
 n : need < 3
 nok : z0C nm = true
 nl : nm.length ≤ 9
 ok : z0b L = true
 sm : Small9 L
 len : L.length ≤ 9
 hgd : hd.good
 ro : hd.ro = z0A L 16 8 0
def stAt (l : List (Nat × Sg)) (k : Nat) : Nat × Sg := l.getD k (0, ⟨0, [], [], []⟩)
structure WhOk (R : List Bs) (K need : Nat) (nm : Bs) (x : Wh) : Prop where
 rl : R.length = 3
 rw : ∀ y ∈ R, y.length = 16
 k : K < 3
 n : need < 3
 nl : nm.length ≤ 20
 bl : x.B.length ≤ 30
 fit : Fit x.B
 fn : ∀ k, ((lfAt x.B k).1.length : Int) ≤ 100000000
 pf : z2r nm x.B x.S 16 = true
 sl : x.S.length = 8 - K
 tl : x.T.length = K
 tw : ∀ y ∈ x.T, y.length = 16
 hd : x.hd.good
 sg : x.sg.good
 sa : x.sg.a = x.hd.ep - 1
 sr : rootV (zhe x.hd) x.sg = pAt R x.hd.ho
 st : x.st.length = 2
 ris : (stAt x.st 0).1 < (stAt x.st 1).1
 sh : ∀ k, k < 2 → (stAt x.st k).1 ≤ 2 ∧ (stAt x.st k).1 ≠ x.hd.ho ∧ (stAt x.st k).2.good ∧ (stAt x.st k).2.a = 4 * (x.hd.ho + 1) + x.hd.ep - 1 ∧ rootV (stampB x.hd) (stAt x.st k).2 = pAt R (stAt x.st k).1
namespace wh
set_option linter.unusedVariables false
set_option linter.unusedSimpArgs false
set_option linter.unusedSectionVars false
end wh
end Go.Proofs.YtfjbinbpgdiafaaGreatDoor
namespace Go.Proofs.YtfjbinbpgdiafaaGreatDoor
set_option maxRecDepth 100000
set_option maxHeartbeats 4000000
set_option linter.unusedVariables false
set_option linter.unusedSimpArgs false
set_option linter.unusedSectionVars false
open Go.RowKit Pl
attribute [local irreducible] z0r z0s z0z AnsP LeP
theorem zab (l : List Lf) (ix : Int) (hl : (l.length : Int) ≤ 100000000) (hf : ∀ k, ((lfAt l k).1.length : Int) ≤ 100000000) : CT Tryz.prog 78 [] [.sl 2 (lvE l), .int .i64 ix] (.ref 1) [.row 2 (lvE (z0q l ix))] := by
 have hlen := z0B l
 refine z01 z0v 1 rfl Tryz.func78 rfl rfl rfl ?_
 repeat ((try conv => whnf); first | (refine stpQ ?_))
 refine z0l 0 ⟨[(5, .ref 1)], [(1, some (.row 2 (lvE (z0q l ix))))], 2⟩ Nat (fun k => ⟨[(0, .sl 2 (lvE l)), (1, .int .i64 ix), (5, .ref 1), (6, .int .i64 (k : Int))], [(1, some (.row 2 (lvE (z0q (l.take k) ix))))], 2⟩) (fun k => k ≤ l.length) (fun k => l.length - k) 0 (by omega) ?_ ?_ ?_
 ·(refine z02 (by rfl) ?_ ?_) <;> (repeat' (first | (exact eqA) | (refine shE ?_) | (refine And.intro ?_ ?_))) <;> first | rfl | decide
 ·intro k hk
  by_cases hk2 : k < l.length
  ·have c1 := z1E (lfAt l k).1 (hf k)
   have hnx := z50 (ix := ix) hk2
   have hw : (z0q (l.take k) ix).length ≤ k := Nat.le_trans (List.length_filter_le _ _) (by rw [List.length_take]; omega)
   generalize z0q (l.take k) ix = o at hnx hw ⊢
   have hol := z0B o
   repeat' (first | ((try conv => whnf); first | (refine Exists.intro l.length (And.intro hlen ?_)) | (refine i_at (z1f hk2) ?_) | (refine ccA ([]) (c1) ?_) | (refine And.intro (by simp [z0B]; omega) ?_) | (refine stpQ ?_)) | ((try conv => whnf); first | (refine cb_d (fun h => ?_) (fun h => ?_)) | (refine cb_n (fun h => ?_) (fun h => ?_)) | (refine cb (fun h => ?_) (fun h => ?_))))
   all_goals first
    | (exfalso; omega)
    | (refine ⟨k + 1, by omega, by omega, ?_⟩
       rw [hnx]
       (refine z02 (by rfl) ?_ ?_) <;> (repeat' (first | (exact eqA) | (refine shE ?_) | (refine And.intro ?_ ?_)))
       all_goals first
        | (simp_all [lvE]; done)
        | rfl)
  ·obtain rfl : k = l.length := by omega
   rw [List.take_length]
   repeat ((try conv => whnf); first | (refine Exists.intro l.length (And.intro hlen ?_)) | (refine stpQ ?_))
   (refine z02 (by rfl) ?_ ?_) <;> (repeat' (first | (exact eqA) | (refine shE ?_) | (refine And.intro ?_ ?_)))
 ·repeat ((try conv => whnf); first | (refine stpQ ?_))
  (refine z00 (by rfl) ?_ ?_ (by rfl)) <;> (repeat' (first | (exact eqA) | (refine shE ?_) | (refine And.intro ?_ ?_)))
theorem zfx (l : List Lf) (w ix n : Nat) (h : z0b l = true) (hw : 1 ≤ w ∧ w ≤ 32) (hix : ix < 256) (hn : n ≤ 8) : CT Tryz.prog 115 [] [.sl 2 (lvE l), .int .i64 (ix : Int), .int .i64 (8 - (n : Int)), .int .i64 (w : Int)] (.ref 1) [.row 1 (strE (z14 l w ix n))] := by
 have h24 := (z0n h).1
 have c0 := z1s l (by omega) (zgc h).fit
 rw [h] at c0
 have c2 : CT Tryz.prog 39 [] [.int .i64 (ix : Int), .int .i64 0, .int .i64 255] (.bool true) [] := by
  have := z13 (ix : Int) 0 255
  rwa [z0W.2 (by omega)] at this
 have c3 : CT Tryz.prog 39 [] [.int .i64 (8 - (n : Int)), .int .i64 0, .int .i64 8] (.bool true) [] := by
  have := z13 (8 - (n : Int)) 0 8
  rwa [z0W.2 (by omega)] at this
 have c4 : CT Tryz.prog 39 [] [.int .i64 (w : Int), .int .i64 1, .int .i64 32] (.bool true) [] := by
  have := z13 (w : Int) 1 32
  rwa [z0W.2 (by omega)] at this
 have c5 := zek l h
 have c6 := z96 w hw
 refine z01 z6g 1 rfl Tryz.func115 rfl rfl rfl ?_
 repeat ((try conv => whnf); first | (refine ccA ([]) (c0) ?_) | (refine ccA ([]) (c2) ?_) | (refine ccA ([]) (c3) ?_) | (refine ccA ([]) (c4) ?_) | (refine ccA ([]) (c5) ?_) | (refine ccA ([]) (c6) ?_) | (refine stpQ ?_))
 refine z0l 0 ⟨[(9, .ref 1)], [(1, some (.row 1 (strE (z14 l w ix n))))], 2⟩ Nat (fun j => ⟨[(1, .int .i64 (ix : Int)), (2, .int .i64 (8 - (n : Int))), (3, .int .i64 (w : Int)), (9, .ref 1), (10, .ref 2), (11, .ref 3), (12, .int .i64 (8 - (j : Int)))], [(1, some (.row 1 (strE (z14 l w ix j)))), (2, some (.row 3 (spE l))), (3, some (.row 1 (strE (empJ w 8))))], 4⟩) (fun j => j ≤ n) (fun j => n - j) 0 (by omega) ?_ ?_ ?_
 ·(refine z02 (by rfl) ?_ ?_) <;> (repeat' (first | (exact eqA) | (refine shE ?_) | (refine And.intro ?_ ?_))) <;> first | rfl | decide
 ·intro j hj
  by_cases hlt : j < n
  ·have hnx := z63 l w ix j
   have hsl := z2b l w ix j
   have e1 : IntKind.i64.wrap (8 - (8 - (j : Int))) = ((j : Nat) : Int) := by rw [wrap_i64 (by omega) (by omega)]; omega
   have e1u := z4s (show j ≤ 8 by omega)
   have e2 := z6h ix j
   obtain ⟨b1, b2, b3⟩ := zeg hix (show j < 8 by omega)
   have e3 := zbz (ix / 2 ^ j) b3
   have e4 : IntKind.i64.wrap (8 - (j : Int) - 1) = 8 - ((j + 1 : Nat) : Int) := by rw [wrap_i64 (by omega) (by omega)]; omega
   have c1 := z7W w hw j (sib (ix / 2 ^ j)) l h (by omega) b2
   generalize z14 l w ix j = o at hnx hsl ⊢
   generalize empJ w 8 = em at c1 ⊢
   have hol := z0H o
   repeat ((try conv => whnf); first | (refine Exists.intro _ (And.intro e1.symm ?_)) | (refine Exists.intro _ (And.intro e1u.symm ?_)) | (refine And.intro (show _ ≤ (64 : Int) from by omega) ?_) | (refine Exists.intro _ (And.intro e2.symm ?_)) | (refine Exists.intro _ (And.intro e3.symm ?_)) | (refine ccA ([]) (c1) ?_) | (refine And.intro (by simp [z0H]; omega) ?_) | (refine Exists.intro _ (And.intro e4.symm ?_)) | (refine And.intro (by kernel_rfl) ?_) | (refine stpQ ?_))
   refine ⟨j + 1, by omega, by omega, ?_⟩
   rw [hnx]
   (refine z02 (by rfl) ?_ ?_) <;> (repeat' (first | (exact eqA) | (refine shE ?_) | (refine And.intro ?_ ?_)))
   rw [z3t]; rfl
  ·have hje : j = n := by omega
   rw [hje]
   repeat ((try conv => whnf); first | (refine stpQ ?_))
   (refine z02 (by rfl) ?_ ?_) <;> (repeat' (first | (exact eqA) | (refine shE ?_) | (refine And.intro ?_ ?_)))
 ·repeat ((try conv => whnf); first | (refine stpQ ?_))
  (refine z00 (by rfl) ?_ ?_ (by rfl)) <;> (repeat' (first | (exact eqA) | (refine shE ?_) | (refine And.intro ?_ ?_)))
theorem z97 (l : List Lf) (nm : Bs) (w n : Nat) (h : z0b l = true) (hnm : z0C nm = true) (hw : 1 ≤ w ∧ w ≤ 32) (hn : n ≤ 8) : CT Tryz.prog 48 [] [.sl 2 (lvE l), .str nm, .int .i64 (8 - (n : Int)), .int .i64 (w : Int)] (.tup [.agg [.ref 1, .ref 2], .bool true]) [.row 2 (lvE (z0q l (ixB nm))), .row 1 (strE (z14 l w (ixB nm) n))] := by
 have hnl := z0D hnm
 have h24 := (z0n h).1
 have c1 := z1s l (by omega) (zgc h).fit
 rw [h] at c1
 have c2 := z5V nm (by omega)
 rw [hnm] at c2
 have c3 : CT Tryz.prog 39 [] [.int .i64 (8 - (n : Int)), .int .i64 0, .int .i64 8] (.bool true) [] := by
  have := z13 (8 - (n : Int)) 0 8
  rwa [z0W.2 (by omega)] at this
 have c4 : CT Tryz.prog 39 [] [.int .i64 (w : Int), .int .i64 1, .int .i64 32] (.bool true) [] := by
  have := z13 (w : Int) 1 32
  rwa [z0W.2 (by omega)] at this
 have c5 := z1E nm (by omega)
 have c6 := zab l (ixB nm : Int) (by omega) (z4I h)
 have c8 := zfx l w (ixB nm) n h hw (zdN nm) hn
 generalize z0q l (ixB nm : Int) = B at c6 ⊢
 generalize z14 l w (ixB nm) n = S at c8 ⊢
 refine z01 z0v 1 rfl Tryz.func48 rfl rfl rfl ?_
 repeat ((try conv => whnf); first | (refine ccA ([]) (c1) ?_) | (refine ccA ([]) (c2) ?_) | (refine ccA ([]) (c3) ?_) | (refine ccA ([]) (c4) ?_) | (refine ccA ([]) (c5) ?_) | (refine ccA ([]) (c6) ?_) | (refine ccA ([]) (c8) ?_) | (refine And.intro (by kernel_rfl) ?_) | (refine stpQ ?_))
 (refine z00 (by rfl) ?_ ?_ (by rfl)) <;> (repeat' (first | (exact eqA) | (refine shE ?_) | (refine And.intro ?_ ?_)))
def PfD (nm : Bs) (B : List Lf) (S : List Bs) : Prop := z0C nm = true ∧ nm.length ≤ 9 ∧ z0b B = true ∧ Small9 B ∧ B.length ≤ 9 ∧ S.length ≤ 8 ∧ ∀ x ∈ S, x.length ≤ 32
theorem PfD.sz {nm : Bs} {B : List Lf} {S : List Bs} (h : PfD nm B S) : PfSz nm B S := by
 obtain ⟨_, h2, _, h4, h5, h6, h7⟩ := h
 exact ⟨by omega, by omega, fun x hx => by have := h4 x hx; omega, by omega, fun x hx => by have := h7 x hx; omega⟩
end Go.Proofs.YtfjbinbpgdiafaaGreatDoor
