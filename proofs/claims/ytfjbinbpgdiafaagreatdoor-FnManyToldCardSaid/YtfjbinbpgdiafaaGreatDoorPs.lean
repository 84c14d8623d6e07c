/- Plain: one-time keys, pools of them, signatures, heads, seals and stamps. Plain: a complete proof, right as it is drawn, and its text. Functions by content: drawn proofs. -/
import Derived.Test.YtfjbinbpgdiafaaGreatDoorTt
import Derived.Test.YtfjbinbpgdiafaaGreatDoorFc
namespace Go.Proofs.YtfjbinbpgdiafaaGreatDoor
set_option linter.unusedVariables false
set_option linter.unusedSimpArgs false
set_option linter.unusedSectionVars false
open Go.RowKit Pl
def lockB (s : Bs) : Bs := z1t 6 [s] 16
def sbB (text : Bs) : Nat := ((z1t 7 [text] 16).getD 0 0).toNat
structure Sg where
 a : Nat
 op : List Bs
 sh : List Bs
 si : List Bs
def sbit (ix b : Nat) : Nat := bitB ix (7 - b)
def Sg.good (s : Sg) : Prop := s.a < 16 ∧ (s.op.length = 8 ∧ ∀ x ∈ s.op, x.length = 16) ∧ (s.sh.length = 8 ∧ ∀ x ∈ s.sh, x.length = 16) ∧ s.si.length = 4 ∧ ∀ x ∈ s.si, x.length = 16
def pairL (ix b : Nat) (o s : Bs) : List Bs := if sbit ix b = 0 then [lockB o, s] else [s, lockB o]
def locksV (ix : Nat) (op sh : List Bs) (n : Nat) : List Bs := (List.range n).flatMap fun b => pairL ix b (pAt op b) (pAt sh b)
def keyV (text : Bs) (s : Sg) : Bs := z1t 6 (locksV (sbB text) s.op s.sh 8) 16
def rootV (text : Bs) (s : Sg) : Bs := (z9c s.a 16 0 (keyV text s) s.si).2
structure Hd where
 ho : Nat
 ep : Nat
 ro : Bs
 pr : Bs
deriving DecidableEq
def Hd.good (h : Hd) : Prop := h.ho ≤ 2 ∧ 1 ≤ h.ep ∧ h.ep ≤ 4 ∧ h.ro.length = 16 ∧ (if h.ep = 1 then h.pr = [] else h.pr.length = 16)
def headB (h : Hd) : Bs := [UInt8.ofNat h.ho, UInt8.ofNat h.ep] ++ h.ro ++ h.pr
def headH (h : Hd) : Bs := z1t 4 [headB h] 16
def stampB (h : Hd) : Bs := z1t 8 [headH h] 16
end Go.Proofs.YtfjbinbpgdiafaaGreatDoor
namespace Go.Proofs.YtfjbinbpgdiafaaGreatDoor
set_option linter.unusedVariables false
set_option linter.unusedSimpArgs false
set_option linter.unusedSectionVars false
open Go.RowKit Pl
structure Wh where
 B : List Lf
 S : List Bs
 T : List Bs
 hd : Hd
 sg : Sg
 st : List (Nat × Sg)
structure WhD (K need : Nat) (nm : Bs) (L : List Lf) (hd : Hd) : Prop where
 k : K < 3
 n : need < 3
 nok : z0E nm = true
 nl : nm.length ≤ 9
 ok : leavesOk L = true
 sm : Small9 L
 len : L.length ≤ 9
 hgd : hd.good
 ro : hd.ro = z0D L 16 8 0
def stAt (l : List (Nat × Sg)) (k : Nat) : Nat × Sg := l.getD k (0, ⟨0, [], [], []⟩)
structure WhOk (R : List Bs) (K need : Nat) (nm : Bs) (x : Wh) : Prop where
 rl : R.length = 3
 rw : ∀ y ∈ R, y.length = 16
 k : K < 3
 n : need < 3
 nl : nm.length ≤ 20
 bl : x.B.length ≤ 30
 fit : Fit x.B
 fn : ∀ k, ((lfAt x.B k).1.length : Int) ≤ 100000000
 pf : pfGood nm x.B x.S 16 = true
 sl : x.S.length = 8 - K
 tl : x.T.length = K
 tw : ∀ y ∈ x.T, y.length = 16
 hd : x.hd.good
 sg : x.sg.good
 sa : x.sg.a = x.hd.ep - 1
 sr : rootV (headH x.hd) x.sg = pAt R x.hd.ho
 st : x.st.length = 2
 ris : (stAt x.st 0).1 < (stAt x.st 1).1
 sh : ∀ k, k < 2 → (stAt x.st k).1 ≤ 2 ∧ (stAt x.st k).1 ≠ x.hd.ho ∧ (stAt x.st k).2.good ∧ (stAt x.st k).2.a = 4 * (x.hd.ho + 1) + x.hd.ep - 1 ∧ rootV (stampB x.hd) (stAt x.st k).2 = pAt R (stAt x.st k).1
theorem z1q {l : Bs} (h : l.length ≤ 100000) : (z0e l).length ≤ l.length + 10 := by
 have := z1V (l := l) (by omega)
 omega
namespace wh
set_option linter.unusedVariables false
set_option linter.unusedSimpArgs false
set_option linter.unusedSectionVars false
theorem bucket_ok {l : List Lf} {ix : Int} (h : leavesOk l = true) : leavesOk (z0k l ix) = true := by
 obtain ⟨h1, h2, h3⟩ := z0G h
 exact z85 (Nat.le_trans (List.length_filter_le _ _) h1) (fun x hx => h2 x (List.mem_filter.1 hx).1) (h3.filter _)
end wh
theorem z9h {t : Bs} {p n : Nat} {l r : Bs} (hn : l.length = n) (h : t.drop p = l ++ r) : z0z t p false n = (l, p + n, false) := by
 have h2 := congrArg List.length h
 simp only [List.length_drop, List.length_append] at h2
 rw [z0z, if_neg (by simp; omega), h, List.take_left' hn]
theorem z2q {t : Bs} {p n : Nat} {l r : Bs} (hn : l.length = n) (h : t.drop p = l ++ r) : t.drop (p + n) = r := by
 rw [← List.drop_drop, h, List.drop_left' hn]
end Go.Proofs.YtfjbinbpgdiafaaGreatDoor
namespace Go.Proofs.YtfjbinbpgdiafaaGreatDoor
set_option maxRecDepth 100000
set_option maxHeartbeats 1000000
set_option linter.unusedVariables false
set_option linter.unusedSimpArgs false
set_option linter.unusedSectionVars false
open Go.RowKit Pl
attribute [local irreducible] z0t z0u z0A AnsP LeP
theorem zd2 (n : Nat) (x : UInt8) (hn : (n : Int) ≤ 100000) : CT Tryz.prog 121 [] [.int .i64 (n : Int), .int .u8 (x.toNat : Int)] (.str (List.replicate n x)) [] := by
 refine z0b z0q 1 rfl Tryz.func121 rfl rfl rfl ?_
 repeat ((try conv => whnf); first | (refine Exists.intro n (And.intro rfl ?_)) | (refine And.intro (by kernel_rfl) ?_) | (refine stpQ ?_))
 refine z0g 0 ⟨[(5, .ref 1)], [(1, some (.row 1 (z0i (List.replicate n x))))], 2⟩ Nat (fun i => ⟨[(0, .int .i64 (n : Int)), (1, .int .u8 (x.toNat : Int)), (5, .ref 1), (6, .int .i64 (i : Int))], [(1, some (.row 1 (z0i (List.replicate i x ++ List.replicate (n - i) 0))))], 2⟩) (fun i => i ≤ n) (fun i => n - i) 0 (by omega) ?_ ?_ ?_
 ·(refine z01 (by rfl) ?_ ?_) <;> (repeat' (first | (exact eqA) | (refine shE ?_) | (refine And.intro ?_ ?_)))
  simp [z0i, z35]
 ·intro i hi
  by_cases hlt : i < n
  ·have hs : List.replicate (n - i) (0 : UInt8) = 0 :: List.replicate (n - (i + 1)) 0 := by rw [show n - i = (n - (i + 1)) + 1 by omega, List.replicate_succ]
   have hlen : (z0i (List.replicate i x ++ List.replicate (n - i) 0)).length = n := by rw [z0s]; simp; omega
   have hset : (List.replicate i x ++ List.replicate (n - i) (0 : UInt8)).set i x = List.replicate (i + 1) x ++ List.replicate (n - (i + 1)) 0 := by
    rw [hs, List.set_append, if_neg (by simp), List.length_replicate, Nat.sub_self, List.set_cons_zero, List.replicate_succ']; simp
   have hst := bset (List.replicate i x ++ List.replicate (n - i) 0) i x
   rw [hset] at hst
   generalize ho : List.replicate i x ++ List.replicate (n - i) (0 : UInt8) = o at hlen hst ⊢
   have g0 := bget (c := o) (i := i) (by rw [← ho]; simp; omega)
   repeat ((try conv => whnf); first | (refine i_lt (by omega) ?_) | (refine Exists.intro _ (And.intro g0 ?_)) | (refine And.intro (by kernel_rfl) ?_) | (refine stpQ ?_))
   refine ⟨i + 1, by omega, by omega, ?_⟩
   rw [← hst]
   (refine z01 (by rfl) ?_ ?_) <;> (repeat' (first | (exact eqA) | (refine shE ?_) | (refine And.intro ?_ ?_))) <;> rfl
  ·have hin : i = n := by omega
   rw [hin]
   repeat ((try conv => whnf); first | (refine And.intro (by kernel_rfl) ?_) | (refine stpQ ?_))
   (refine z01 (by rfl) ?_ ?_) <;> (repeat' (first | (exact eqA) | (refine shE ?_) | (refine And.intro ?_ ?_)))
   simp
 ·generalize List.replicate n x = o
  repeat ((try conv => whnf); first | (refine Exists.intro o (And.intro rfl ?_)) | (refine And.intro (by kernel_rfl) ?_) | (refine stpQ ?_))
  (refine z02 (by rfl) ?_ ?_ (by rfl)) <;> (repeat' (first | (exact eqA) | (refine shE ?_) | (refine And.intro ?_ ?_)))
theorem z5K (l : List Lf) (ix : Int) (hl : (l.length : Int) ≤ 100000000) (hf : ∀ k, ((lfAt l k).1.length : Int) ≤ 100000000) : CT Tryz.prog 78 [] [.sl 2 (lvE l), .int .i64 ix] (.ref 1) [.row 2 (lvE (z0k l ix))] := by
 have hlen := z0v l
 refine z0b z0q 1 rfl Tryz.func78 rfl rfl rfl ?_
 repeat ((try conv => whnf); first | (refine stpQ ?_))
 refine z0g 0 ⟨[(5, .ref 1)], [(1, some (.row 2 (lvE (z0k l ix))))], 2⟩ Nat (fun k => ⟨[(0, .sl 2 (lvE l)), (1, .int .i64 ix), (5, .ref 1), (6, .int .i64 (k : Int))], [(1, some (.row 2 (lvE (z0k (l.take k) ix))))], 2⟩) (fun k => k ≤ l.length) (fun k => l.length - k) 0 (by omega) ?_ ?_ ?_
 ·(refine z01 (by rfl) ?_ ?_) <;> (repeat' (first | (exact eqA) | (refine shE ?_) | (refine And.intro ?_ ?_))) <;> first | rfl | decide
 ·intro k hk
  by_cases hk2 : k < l.length
  ·have c1 := z31 (lfAt l k).1 (hf k)
   have hnx := z4k (ix := ix) hk2
   have hw : (z0k (l.take k) ix).length ≤ k := Nat.le_trans (List.length_filter_le _ _) (by rw [List.length_take]; omega)
   generalize z0k (l.take k) ix = o at hnx hw ⊢
   have hol := z0v o
   repeat' (first | ((try conv => whnf); first | (refine Exists.intro l.length (And.intro hlen ?_)) | (refine i_at (z13 hk2) ?_) | (refine ccA ([]) (c1) ?_) | (refine And.intro (by simp [z0v]; omega) ?_) | (refine stpQ ?_)) | ((try conv => whnf); first | (refine cb_d (fun h => ?_) (fun h => ?_)) | (refine cb_n (fun h => ?_) (fun h => ?_)) | (refine cb (fun h => ?_) (fun h => ?_))))
   all_goals first
    | (exfalso; omega)
    | (refine ⟨k + 1, by omega, by omega, ?_⟩
       rw [hnx]
       (refine z01 (by rfl) ?_ ?_) <;> (repeat' (first | (exact eqA) | (refine shE ?_) | (refine And.intro ?_ ?_)))
       all_goals first
        | (simp_all [lvE]; done)
        | rfl)
  ·obtain rfl : k = l.length := by omega
   rw [List.take_length]
   repeat ((try conv => whnf); first | (refine Exists.intro l.length (And.intro hlen ?_)) | (refine stpQ ?_))
   (refine z01 (by rfl) ?_ ?_) <;> (repeat' (first | (exact eqA) | (refine shE ?_) | (refine And.intro ?_ ?_)))
 ·repeat ((try conv => whnf); first | (refine stpQ ?_))
  (refine z02 (by rfl) ?_ ?_ (by rfl)) <;> (repeat' (first | (exact eqA) | (refine shE ?_) | (refine And.intro ?_ ?_)))
def PfD (nm : Bs) (B : List Lf) (S : List Bs) : Prop := z0E nm = true ∧ nm.length ≤ 9 ∧ leavesOk B = true ∧ Small9 B ∧ B.length ≤ 9 ∧ S.length ≤ 8 ∧ ∀ x ∈ S, x.length ≤ 32
theorem PfD.sz {nm : Bs} {B : List Lf} {S : List Bs} (h : PfD nm B S) : PfSz nm B S := by
 obtain ⟨_, h2, _, h4, h5, h6, h7⟩ := h
 exact ⟨by omega, by omega, fun x hx => by have := h4 x hx; omega, by omega, fun x hx => by have := h7 x hx; omega⟩
end Go.Proofs.YtfjbinbpgdiafaaGreatDoor
