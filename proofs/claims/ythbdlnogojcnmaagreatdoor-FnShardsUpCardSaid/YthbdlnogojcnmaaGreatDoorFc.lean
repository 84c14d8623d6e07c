/- Functions by content: an entry is looked up, put, dropped. Functions by content: an entry is dropped; one is put, by the reference; lists are compared. Functions by content: lists and names drawn. Functions by content: more of what is drawn: any bound, texts, spoilt texts. -/
import Derived.Test.YthbdlnogojcnmaaGreatDoorFa
import Derived.Test.YthbdlnogojcnmaaGreatDoorPlainM
import Derived.Test.YthbdlnogojcnmaaGreatDoorFb
namespace Go.Proofs.YthbdlnogojcnmaaGreatDoor
set_option maxRecDepth 100000
set_option maxHeartbeats 1000000
set_option linter.unusedVariables false
set_option linter.unusedSimpArgs false
set_option linter.unusedSectionVars false
open Go.RowKit Pl
attribute [local irreducible] z0p z0r z0y AnsP LeP
theorem z1C (l : List Lf) (hl : (l.length : Int) ≤ 1000000000) : CT Tryz.prog 142 [] [.sl 2 (lvE l)] (.ref 1) [.row 2 (lvE l)] := by
 have hlen := z0E l
 refine z01 z0M 1 rfl Tryz.func142 rfl rfl rfl ?_
 repeat ((try conv => whnf); first | (refine stpQ ?_))
 (refine z00 (by rfl) ?_ ?_ (by rfl)) <;> repeat' (first | (exact eqA) | (refine shE ?_) | (refine And.intro ?_ ?_))
theorem zdO (l : List Lf) (nm : Bs) (hl : (l.length : Int) ≤ 1000000000) : CT Tryz.prog 200 [] [.sl 2 (lvE l), .str nm] (.tup [.str ((z1d l nm).getD []), .bool (z1d l nm).isSome]) [] := by
 have hlen := z0E l
 refine z01 z0M 1 rfl Tryz.func200 rfl rfl rfl ?_
 repeat ((try conv => whnf); first | (refine stpQ ?_))
 refine z0P Nat (fun k => ⟨[(1, .str nm), (8, .sl 2 (lvE l)), (9, .int .i64 ((lvE l).length : Int)), (10, .int .i64 (k : Int))], [], 2⟩) (fun k => k ≤ l.length ∧ z1d (l.take k) nm = none) (fun k => l.length - k) 0 ⟨by omega, rfl⟩ ?_ ?_
 ·(refine z04 (by rfl) ?_ ?_) <;> repeat' (first | (exact eqA) | (refine shE ?_) | (refine And.intro ?_ ?_))
 ·rintro k ⟨hk, hp⟩
  repeat ((try conv => whnf); first | (refine stpQ ?_))
  ((try conv => whnf); first | (refine cb_d (fun h => ?_) (fun h => ?_)) | (refine cb_n (fun h => ?_) (fun h => ?_)) | (refine cb (fun h => ?_) (fun h => ?_)))
  ·have hlt : k < l.length := by omega
   repeat ((try conv => whnf); first | (refine i_at (z1j hlt) ?_) | (refine stpQ ?_))
   ((try conv => whnf); first | (refine cb_d (fun h => ?_) (fun h => ?_)) | (refine cb_n (fun h => ?_) (fun h => ?_)) | (refine cb (fun h => ?_) (fun h => ?_)))
   ·have hg := zbd hlt hp h
    repeat ((try conv => whnf); first | (refine stpQ ?_))
    rw [hg]
    (refine z00 (by rfl) ?_ ?_ (by rfl)) <;> (repeat' (first | (exact eqA) | (refine shE ?_) | (refine And.intro ?_ ?_))) <;> rfl
   ·have hg := zbc hlt hp h
    repeat ((try conv => whnf); first | (refine stpQ ?_))
    refine ⟨k + 1, ⟨by omega, hg⟩, by omega, ?_⟩
    (refine z04 (by rfl) ?_ ?_) <;> repeat' (first | (exact eqA) | (refine shE ?_) | (refine And.intro ?_ ?_))
  ·obtain rfl : k = l.length := by omega
   rw [List.take_length] at hp
   repeat ((try conv => whnf); first | (refine stpQ ?_))
   rw [hp]
   (refine z00 (by rfl) ?_ ?_ (by rfl)) <;> (repeat' (first | (exact eqA) | (refine shE ?_) | (refine And.intro ?_ ?_))) <;> rfl
theorem z8H (l : List Lf) (nm : Bs) (hl : (l.length : Int) ≤ 100000000) : CT Tryz.prog 149 [] [.sl 2 (lvE l), .str nm] (.ref 1) [.row 2 (lvE (z0Q l nm))] := by
 have hlen := z0E l
 refine z01 z0M 1 rfl Tryz.func149 rfl rfl rfl ?_
 repeat ((try conv => whnf); first | (refine stpQ ?_))
 refine z0P Nat (fun k => ⟨[(0, .sl 2 (lvE l)), (1, .str nm), (5, .ref 1), (6, .int .i64 (k : Int))], [(1, some (.row 2 (lvE (z0Q (l.take k) nm))))], 2⟩) (fun k => k ≤ l.length) (fun k => l.length - k) 0 (by omega) ?_ ?_
 ·(refine z04 (by rfl) ?_ ?_) <;> (repeat' (first | (exact eqA) | (refine shE ?_) | (refine And.intro ?_ ?_))) <;> first | rfl | decide
 ·intro k hk
  repeat ((try conv => whnf); first | (refine stpQ ?_))
  ((try conv => whnf); first | (refine cb_d (fun h => ?_) (fun h => ?_)) | (refine cb_n (fun h => ?_) (fun h => ?_)) | (refine cb (fun h => ?_) (fun h => ?_)))
  ·have hk2 : k < l.length := by omega
   repeat ((try conv => whnf); first | (refine i_at (z1j hk2) ?_) | (refine stpQ ?_))
   ((try conv => whnf); first | (refine cb_d (fun h => ?_) (fun h => ?_)) | (refine cb_n (fun h => ?_) (fun h => ?_)) | (refine cb (fun h => ?_) (fun h => ?_)))
   ·have hw : (z0Q (l.take k) nm).length ≤ k := Nat.le_trans (List.length_filter_le _ _) (by simp; omega)
    repeat ((try conv => whnf); first | (refine i_at (z1j hk2) ?_) | (refine And.intro (by simp [z0E]; omega) ?_) | (refine stpQ ?_))
    refine ⟨k + 1, by omega, by omega, ?_⟩
    (refine z04 (by rfl) ?_ ?_) <;> repeat' (first | (exact eqA) | (refine shE ?_) | (refine And.intro ?_ ?_))
    rw [z3e hk2, if_neg h, z2B]; rfl
   ·repeat ((try conv => whnf); first | (refine stpQ ?_))
    refine ⟨k + 1, by omega, by omega, ?_⟩
    (refine z04 (by rfl) ?_ ?_) <;> repeat' (first | (exact eqA) | (refine shE ?_) | (refine And.intro ?_ ?_))
    rw [z3e hk2, if_pos h, List.append_nil]
  ·obtain rfl : k = l.length := by omega
   repeat ((try conv => whnf); first | (refine stpQ ?_))
   (refine z00 (by rfl) ?_ ?_ (by rfl)) <;> repeat' (first | (exact eqA) | (refine shE ?_) | (refine And.intro ?_ ?_))
   rw [List.take_length]
theorem zdP (l : List Lf) (nm vl : Bs) (hl : (l.length : Int) ≤ 100000000) (hf : Fit l) (hf2 : Fit (insL l nm vl)) : CT Tryz.prog 183 [] [.sl 2 (lvE l), .str nm, .str vl] (.tup [.ref 1, .bool (insR l nm vl).2]) [.row 2 (lvE (insR l nm vl).1)] := by
 have hlen := z0E l
 have hil : (insL l nm vl).length ≤ 2 * l.length + 1 := by
  have := zbe nm vl l l.length
  rw [List.take_length] at this
  unfold insL
  cases (insF l nm vl).2 <;> simp <;> omega
 refine z01 z0M 1 rfl Tryz.func183 rfl rfl rfl ?_
 repeat ((try conv => whnf); first | (refine ccA ([]) (z2C l (by omega) hf) ?_) | (refine stpQ ?_))
 ((try conv => whnf); first | (refine cb_d (fun h => ?_) (fun h => ?_)) | (refine cb_n (fun h => ?_) (fun h => ?_)) | (refine cb (fun h => ?_) (fun h => ?_)))
 ·have ho : z0f l = false := by simpa using h
  have hr : insR l nm vl = (l, false) := by simp [insR, ho]
  rw [hr]
  repeat ((try conv => whnf); first | (refine ccA ([]) (z1C l (by omega)) ?_) | (refine stpQ ?_))
  (refine z00 (by rfl) ?_ ?_ (by rfl)) <;> repeat' (first | (exact eqA) | (refine shE ?_) | (refine And.intro ?_ ?_))
 ·have ho : z0f l = true := by simpa using h
  repeat ((try conv => whnf); first | (refine stpQ ?_))
  refine z0P Nat (fun k => ⟨[(0, .sl 2 (lvE l)), (1, .str nm), (2, .str vl), (8, .ref 1), (9, .bool (insF (l.take k) nm vl).2), (17, .sl 2 (lvE l)), (18, .int .i64 ((lvE l).length : Int)), (19, .int .i64 (k : Int))], [(1, some (.row 2 (lvE (insF (l.take k) nm vl).1)))], 2⟩) (fun k => k ≤ l.length) (fun k => l.length - k) 0 (by omega) ?_ ?_
  ·(refine z04 (by rfl) ?_ ?_) <;> (repeat' (first | (exact eqA) | (refine shE ?_) | (refine And.intro ?_ ?_))) <;> first | rfl | decide
  ·intro k hk
   have hfl := zbe nm vl l k
   repeat ((try conv => whnf); first | (refine stpQ ?_))
   ((try conv => whnf); first | (refine cb_d (fun h => ?_) (fun h => ?_)) | (refine cb_n (fun h => ?_) (fun h => ?_)) | (refine cb (fun h => ?_) (fun h => ?_)))
   ·have hk2 : k < l.length := by omega
    have hnx := zdx (n := nm) (v := vl) hk2
    generalize insF (l.take k) nm vl = st at hnx hfl ⊢
    obtain ⟨o, d⟩ := st
    simp only at hfl
    have hol := z0E o
    repeat' (first | ((try conv => whnf); first | (refine i_at (z1j hk2) ?_) | (refine And.intro (by simp [z0E]; omega) ?_) | (refine stpQ ?_)) | ((try conv => whnf); first | (refine cb_d (fun h => ?_) (fun h => ?_)) | (refine cb_n (fun h => ?_) (fun h => ?_)) | (refine cb (fun h => ?_) (fun h => ?_))))
    all_goals
     refine ⟨k + 1, by omega, by omega, ?_⟩
     rw [hnx]
     (refine z04 (by rfl) ?_ ?_) <;> repeat' (first | (exact eqA) | (refine shE ?_) | (refine And.intro ?_ ?_))
    all_goals first
     | (simp_all [insS, ltB, lvE]; done)
   ·obtain rfl : k = l.length := by omega
    rw [List.take_length] at hfl ⊢
    generalize hst : insF l nm vl = st at hfl ⊢
    obtain ⟨o, d⟩ := st
    simp only at hfl
    have hol := z0E o
    have hil2 : insL l nm vl = bif d then o else o ++ [(nm, vl)] := by rw [insL, hst]
    cases d
    ·have e1 : lvE o ++ [[.str nm, .str vl]] = lvE (insL l nm vl) := by rw [hil2]; simp [lvE]
     have hR : insR l nm vl = bif z0f (insL l nm vl) then (insL l nm vl, true) else (l, false) := by rw [insR, ho]; rfl
     repeat ((try conv => whnf); first | (refine And.intro (by simp [z0E]; omega) ?_) | (refine stpQ ?_))
     ((try conv => whnf); refine z3w ([]) (z2C (insL l nm vl) (by omega) hf2) ?_ (by ((repeat' (first | (exact trivial) | (exact rfl) | (refine And.intro ?_ ?_))); first | done | fail)) (by decide) (by rfl) (by first | exact .inl rfl | (refine .inr ⟨?_, ?_⟩ <;> simp [own2, own1, own0, ownE])) ?_)
     ·exact ⟨⟨congrArg (fun e => some (Ent.row 2 e)) e1, rfl⟩, rfl⟩
     ·repeat ((try conv => whnf); first | (refine stpQ ?_))
      ((try conv => whnf); first | (refine cb_d (fun h => ?_) (fun h => ?_)) | (refine cb_n (fun h => ?_) (fun h => ?_)) | (refine cb (fun h => ?_) (fun h => ?_)))
      ·have ho2 : z0f (insL l nm vl) = false := by simpa using h
       rw [hR, ho2, cond_false]
       repeat ((try conv => whnf); first | (refine ccA ([]) (z1C l (by omega)) ?_) | (refine stpQ ?_))
       (refine z00 (by rfl) ?_ ?_ (by rfl)) <;> repeat' (first | (exact eqA) | (refine shE ?_) | (refine And.intro ?_ ?_))
      ·have ho2 : z0f (insL l nm vl) = true := by simpa using h
       rw [hR, ho2, cond_true]
       repeat ((try conv => whnf); first | (refine stpQ ?_))
       (refine z00 (by rfl) ?_ ?_ (by rfl)) <;> repeat' (first | (exact eqA) | (refine shE ?_) | (refine And.intro ?_ ?_))
       exact e1
    ·have e1 : lvE o = lvE (insL l nm vl) := by rw [hil2]; rfl
     have hR : insR l nm vl = bif z0f (insL l nm vl) then (insL l nm vl, true) else (l, false) := by rw [insR, ho]; rfl
     repeat ((try conv => whnf); first | (refine stpQ ?_))
     ((try conv => whnf); refine z3w ([]) (z2C (insL l nm vl) (by omega) hf2) ?_ (by ((repeat' (first | (exact trivial) | (exact rfl) | (refine And.intro ?_ ?_))); first | done | fail)) (by decide) (by rfl) (by first | exact .inl rfl | (refine .inr ⟨?_, ?_⟩ <;> simp [own2, own1, own0, ownE])) ?_)
     ·exact ⟨⟨congrArg (fun e => some (Ent.row 2 e)) e1, rfl⟩, rfl⟩
     ·repeat ((try conv => whnf); first | (refine stpQ ?_))
      ((try conv => whnf); first | (refine cb_d (fun h => ?_) (fun h => ?_)) | (refine cb_n (fun h => ?_) (fun h => ?_)) | (refine cb (fun h => ?_) (fun h => ?_)))
      ·have ho2 : z0f (insL l nm vl) = false := by simpa using h
       rw [hR, ho2, cond_false]
       repeat ((try conv => whnf); first | (refine ccA ([]) (z1C l (by omega)) ?_) | (refine stpQ ?_))
       (refine z00 (by rfl) ?_ ?_ (by rfl)) <;> repeat' (first | (exact eqA) | (refine shE ?_) | (refine And.intro ?_ ?_))
      ·have ho2 : z0f (insL l nm vl) = true := by simpa using h
       rw [hR, ho2, cond_true]
       repeat ((try conv => whnf); first | (refine stpQ ?_))
       (refine z00 (by rfl) ?_ ?_ (by rfl)) <;> repeat' (first | (exact eqA) | (refine shE ?_) | (refine And.intro ?_ ?_))
       exact e1
end Go.Proofs.YthbdlnogojcnmaaGreatDoor
namespace Go.Proofs.YthbdlnogojcnmaaGreatDoor
set_option maxRecDepth 100000
set_option maxHeartbeats 1000000
set_option linter.unusedVariables false
set_option linter.unusedSimpArgs false
set_option linter.unusedSectionVars false
open Go.RowKit Pl
attribute [local irreducible] z0p z0r z0y AnsP LeP
theorem zcb (l : List Lf) (nm : Bs) (hl : (l.length : Int) ≤ 100000000) (hf : Fit l) : CT Tryz.prog 182 [] [.sl 2 (lvE l), .str nm] (.tup [.ref 1, .bool (z3Q l nm).2]) [.row 2 (lvE (z3Q l nm).1)] := by
 have hlen := z0E l
 refine z01 z0M 1 rfl Tryz.func182 rfl rfl rfl ?_
 repeat' (first | ((try conv => whnf); first | (refine ccA ([]) (zdO l nm (by omega)) ?_) | (refine ccA ([]) (z2C l (by omega) hf) ?_) | (refine ccA ([]) (z1C l (by omega)) ?_) | (refine stpQ ?_)) | ((try conv => whnf); first | (refine cb_d (fun h => ?_) (fun h => ?_)) | (refine cb_n (fun h => ?_) (fun h => ?_)) | (refine cb (fun h => ?_) (fun h => ?_))))
 ·have e : z3Q l nm = (l, false) := by simp at h; simp [z3Q, h]
  rw [e]
  (refine z00 (by rfl) ?_ ?_ (by rfl)) <;> repeat' (first | (exact eqA) | (refine shE ?_) | (refine And.intro ?_ ?_))
 ·have e : z3Q l nm = (l, false) := by simp at h; simp [z3Q, h]
  rw [e]
  (refine z00 (by rfl) ?_ ?_ (by rfl)) <;> repeat' (first | (exact eqA) | (refine shE ?_) | (refine And.intro ?_ ?_))
 ·rename_i h0
  have e : z3Q l nm = (z0Q l nm, true) := by simp at h h0; simp [z3Q, h, h0]
  rw [e]
  refine z0P Nat (fun k => ⟨[(1, .str nm), (8, .ref 1), (26, .sl 2 (lvE l)), (27, .int .i64 ((lvE l).length : Int)), (28, .int .i64 (k : Int))], [(1, some (.row 2 (lvE (z0Q (l.take k) nm))))], 2⟩) (fun k => k ≤ l.length) (fun k => l.length - k) 0 (by omega) ?_ ?_
  ·(refine z04 (by rfl) ?_ ?_) <;> (repeat' (first | (exact eqA) | (refine shE ?_) | (refine And.intro ?_ ?_))) <;> first | rfl | decide
  ·intro k hk
   have hw : (z0Q (l.take k) nm).length ≤ k := Nat.le_trans (List.length_filter_le _ _) (by simp; omega)
   repeat ((try conv => whnf); first | (refine stpQ ?_))
   ((try conv => whnf); first | (refine cb_d (fun h => ?_) (fun h => ?_)) | (refine cb_n (fun h => ?_) (fun h => ?_)) | (refine cb (fun h => ?_) (fun h => ?_)))
   ·have hk2 : k < l.length := by omega
    have hnx := z3e (n := nm) hk2
    repeat ((try conv => whnf); first | (refine i_at (z1j hk2) ?_) | (refine stpQ ?_))
    ((try conv => whnf); first | (refine cb_d (fun h => ?_) (fun h => ?_)) | (refine cb_n (fun h => ?_) (fun h => ?_)) | (refine cb (fun h => ?_) (fun h => ?_)))
    ·repeat ((try conv => whnf); first | (refine And.intro (by simp [z0E]; omega) ?_) | (refine stpQ ?_))
     refine ⟨k + 1, by omega, by omega, ?_⟩
     (refine z04 (by rfl) ?_ ?_) <;> (repeat' (first | (exact eqA) | (refine shE ?_) | (refine And.intro ?_ ?_)))
     rw [hnx, if_neg ‹_›, z2B]; rfl
    ·repeat ((try conv => whnf); first | (refine stpQ ?_))
     refine ⟨k + 1, by omega, by omega, ?_⟩
     (refine z04 (by rfl) ?_ ?_) <;> (repeat' (first | (exact eqA) | (refine shE ?_) | (refine And.intro ?_ ?_)))
     rw [hnx, if_pos ‹_›, List.append_nil]
   ·obtain rfl : k = l.length := by omega
    rw [List.take_length]
    repeat ((try conv => whnf); first | (refine stpQ ?_))
    (refine z00 (by rfl) ?_ ?_ (by rfl)) <;> repeat' (first | (exact eqA) | (refine shE ?_) | (refine And.intro ?_ ?_))
theorem zcc (l : List Lf) (nm vl : Bs) (hl : (l.length : Int) ≤ 10000000) (hf : Fit l) (hf2 : Fit (putL l nm vl)) : CT Tryz.prog 114 [] [.sl 2 (lvE l), .str nm, .str vl] (.tup [.ref 1, .bool (putR l nm vl).2]) [.row 2 (lvE (putR l nm vl).1)] := by
 have hlen := z0E l
 refine z01 z0M 1 rfl Tryz.func114 rfl rfl rfl ?_
 repeat ((try conv => whnf); first | (refine ccA ([]) (z8H l nm (by omega)) ?_) | (refine stpQ ?_))
 generalize hr : z0Q l nm = r
 have hrl : r.length ≤ l.length := by rw [← hr]; exact List.length_filter_le _ _
 have hlr := z0E r
 refine z0P Nat (fun k => ⟨[(0, .sl 2 (lvE l)), (1, .str nm), (2, .str vl), (8, .ref 1), (9, .ref 2), (10, .int .i64 (k : Int))], [(1, some (.row 2 (lvE (lowL (r.take k) nm)))), (2, some (.row 2 (lvE r)))], 3⟩) (fun k => k ≤ r.length) (fun k => r.length - k) 0 (by omega) ?_ ?_
 ·(refine z04 (by rfl) ?_ ?_) <;> (repeat' (first | (exact eqA) | (refine shE ?_) | (refine And.intro ?_ ?_))) <;> first | rfl | decide
 ·intro k hk
  have hw : (lowL (r.take k) nm).length ≤ k := Nat.le_trans (List.length_filter_le _ _) (by simp; omega)
  repeat ((try conv => whnf); first | (refine stpQ ?_))
  ((try conv => whnf); first | (refine cb_d (fun h => ?_) (fun h => ?_)) | (refine cb_n (fun h => ?_) (fun h => ?_)) | (refine cb (fun h => ?_) (fun h => ?_)))
  ·have hk2 : k < r.length := by omega
   have hnx := zdy (n := nm) hk2
   repeat ((try conv => whnf); first | (refine Exists.intro _ (And.intro (z1j hk2) ?_)) | (refine stpQ ?_))
   ((try conv => whnf); first | (refine cb_d (fun h => ?_) (fun h => ?_)) | (refine cb_n (fun h => ?_) (fun h => ?_)) | (refine cb (fun h => ?_) (fun h => ?_)))
   ·repeat ((try conv => whnf); first | (refine Exists.intro _ (And.intro (z1j hk2) ?_)) | (refine And.intro (by simp [z0E]; omega) ?_) | (refine stpQ ?_))
    refine ⟨k + 1, by omega, by omega, ?_⟩
    (refine z04 (by rfl) ?_ ?_) <;> (repeat' (first | (exact eqA) | (refine shE ?_) | (refine And.intro ?_ ?_)))
    rw [hnx, if_pos (show ltB (lfAt r k).1 nm = true from h), z2B]; rfl
   ·repeat ((try conv => whnf); first | (refine stpQ ?_))
    refine ⟨k + 1, by omega, by omega, ?_⟩
    (refine z04 (by rfl) ?_ ?_) <;> (repeat' (first | (exact eqA) | (refine shE ?_) | (refine And.intro ?_ ?_)))
    rw [hnx, if_neg (by rw [ltB, h]; decide), List.append_nil]
  ·obtain rfl : k = r.length := by omega
   rw [List.take_length] at hw ⊢
   repeat ((try conv => whnf); first | (refine And.intro (by simp [z0E]; omega) ?_) | (refine stpQ ?_))
   refine z0P Nat (fun k => ⟨[(0, .sl 2 (lvE l)), (1, .str nm), (2, .str vl), (8, .ref 1), (9, .ref 2), (11, .int .i64 (k : Int))], [(1, some (.row 2 (lvE (lowL r nm ++ [(nm, vl)] ++ z3P (r.take k) nm)))), (2, some (.row 2 (lvE r)))], 3⟩) (fun k => k ≤ r.length) (fun k => r.length - k) 0 (by omega) ?_ ?_
   ·(refine z04 (by rfl) ?_ ?_) <;> (repeat' (first | (exact eqA) | (refine shE ?_) | (refine And.intro ?_ ?_))) <;> first | decide | (simp [lvE, z3P]; done)
   ·intro k hk
    have hw2 : (z3P (r.take k) nm).length ≤ k := Nat.le_trans (List.length_filter_le _ _) (by simp; omega)
    have hlo := z0E (lowL r nm ++ [(nm, vl)] ++ z3P (r.take k) nm)
    simp only [List.length_append, List.length_singleton] at hlo
    repeat ((try conv => whnf); first | (refine stpQ ?_))
    ((try conv => whnf); first | (refine cb_d (fun h => ?_) (fun h => ?_)) | (refine cb_n (fun h => ?_) (fun h => ?_)) | (refine cb (fun h => ?_) (fun h => ?_)))
    ·have hk2 : k < r.length := by omega
     have hnx := zc7 (n := nm) hk2
     repeat ((try conv => whnf); first | (refine Exists.intro _ (And.intro (z1j hk2) ?_)) | (refine stpQ ?_))
     ((try conv => whnf); first | (refine cb_d (fun h => ?_) (fun h => ?_)) | (refine cb_n (fun h => ?_) (fun h => ?_)) | (refine cb (fun h => ?_) (fun h => ?_)))
     ·repeat ((try conv => whnf); first | (refine Exists.intro _ (And.intro (z1j hk2) ?_)) | (refine And.intro (by simp [z0E]; omega) ?_) | (refine stpQ ?_))
      refine ⟨k + 1, by omega, by omega, ?_⟩
      (refine z04 (by rfl) ?_ ?_) <;> (repeat' (first | (exact eqA) | (refine shE ?_) | (refine And.intro ?_ ?_)))
      rw [hnx, if_pos (show (!(ltB (lfAt r k).1 nm || decide ((lfAt r k).1 = nm))) = true from h)]
      simp [lvE]
     ·repeat ((try conv => whnf); first | (refine stpQ ?_))
      refine ⟨k + 1, by omega, by omega, ?_⟩
      (refine z04 (by rfl) ?_ ?_) <;> (repeat' (first | (exact eqA) | (refine shE ?_) | (refine And.intro ?_ ?_)))
      rw [hnx, if_neg (show ¬ (!(ltB (lfAt r k).1 nm || decide ((lfAt r k).1 = nm))) = true from fun c => by rw [ltB, h] at c; cases c), List.append_nil]
    ·obtain rfl : k = r.length := by omega
     rw [List.take_length] at hw2 hlo ⊢
     have hP : lowL r nm ++ [(nm, vl)] ++ z3P r nm = putL l nm vl := by rw [putL, hr]
     rw [hP] at hlo ⊢
     have hpl := z0E (putL l nm vl)
     repeat ((try conv => whnf); first | (refine ccA ([]) (z2g l (by omega) hf) ?_) | (refine stpQ ?_))
     ((try conv => whnf); first | (refine cb_d (fun h => ?_) (fun h => ?_)) | (refine cb_n (fun h => ?_) (fun h => ?_)) | (refine cb (fun h => ?_) (fun h => ?_)))
     ·have e : putR l nm vl = (l, false) := by simp at h; simp [putR, h]
      rw [e]
      repeat ((try conv => whnf); first | (refine And.intro (by simp [z0E]; omega) ?_) | (refine stpQ ?_))
      (refine z00 (by rfl) ?_ ?_ (by rfl)) <;> repeat' (first | (exact eqA) | (refine shE ?_) | (refine And.intro ?_ ?_))
      rfl
     ·repeat ((try conv => whnf); first | (refine ccA ([]) (z2g (putL l nm vl) (by omega) hf2) ?_) | (refine stpQ ?_))
      ((try conv => whnf); first | (refine cb_d (fun h => ?_) (fun h => ?_)) | (refine cb_n (fun h => ?_) (fun h => ?_)) | (refine cb (fun h => ?_) (fun h => ?_)))
      ·have e : putR l nm vl = (l, false) := by simp at h; simp [putR, h]
       rw [e]
       repeat ((try conv => whnf); first | (refine And.intro (by simp [z0E]; omega) ?_) | (refine stpQ ?_))
       (refine z00 (by rfl) ?_ ?_ (by rfl)) <;> repeat' (first | (exact eqA) | (refine shE ?_) | (refine And.intro ?_ ?_))
       rfl
      ·rename_i h0
       have e : putR l nm vl = (putL l nm vl, true) := by simp at h h0; simp [putR, h, h0]
       rw [e]
       repeat ((try conv => whnf); first | (refine stpQ ?_))
       (refine z00 (by rfl) ?_ ?_ (by rfl)) <;> repeat' (first | (exact eqA) | (refine shE ?_) | (refine And.intro ?_ ?_))
theorem z8I (l m : List Lf) (hl : (l.length : Int) ≤ 100000000) (hm : (m.length : Int) ≤ 100000000) : CT Tryz.prog 28 [] [.sl 2 (lvE l), .sl 2 (lvE m)] (.bool (decide (l = m))) [] := by
 have h1 := z0E l
 have h2 := z0E m
 refine z01 z0M 1 rfl Tryz.func28 rfl rfl rfl ?_
 repeat ((try conv => whnf); first | (refine stpQ ?_))
 ((try conv => whnf); first | (refine cb_d (fun h => ?_) (fun h => ?_)) | (refine cb_n (fun h => ?_) (fun h => ?_)) | (refine cb (fun h => ?_) (fun h => ?_)))
 ·repeat ((try conv => whnf); first | (refine stpQ ?_))
  (refine z00 (by rfl) ?_ ?_ (by rfl)) <;> repeat' (first | (exact eqA) | (refine shE ?_) | (refine And.intro ?_ ?_))
  have : l ≠ m := fun e => by subst e; exact h rfl
  simp [this]
 ·repeat ((try conv => whnf); first | (refine stpQ ?_))
  have he : l.length = m.length := by omega
  refine z0P Nat (fun k => ⟨[(0, .sl 2 (lvE l)), (1, .sl 2 (lvE m)), (5, .int .i64 (k : Int))], [], 2⟩) (fun k => k ≤ l.length ∧ l.take k = m.take k) (fun k => l.length - k) 0 ⟨by omega, rfl⟩ ?_ ?_
  ·(refine z04 (by rfl) ?_ ?_) <;> repeat' (first | (exact eqA) | (refine shE ?_) | (refine And.intro ?_ ?_))
  ·rintro k ⟨hk, hp⟩
   repeat ((try conv => whnf); first | (refine stpQ ?_))
   ((try conv => whnf); first | (refine cb_d (fun h => ?_) (fun h => ?_)) | (refine cb_n (fun h => ?_) (fun h => ?_)) | (refine cb (fun h => ?_) (fun h => ?_)))
   ·have hk1 : k < l.length := by omega
    have hk2 : k < m.length := by omega
    repeat ((try conv => whnf); first | (refine i_at (z1j hk1) ?_) | (refine i_at (z1j hk2) ?_) | (refine stpQ ?_))
    ((try conv => whnf); first | (refine cb_d (fun h => ?_) (fun h => ?_)) | (refine cb_n (fun h => ?_) (fun h => ?_)) | (refine cb (fun h => ?_) (fun h => ?_)))
    ·have hne : lfAt l k ≠ lfAt m k := fun e => by rw [e] at h; simp [eqC] at h
     repeat ((try conv => whnf); first | (refine stpQ ?_))
     (refine z00 (by rfl) ?_ ?_ (by rfl)) <;> repeat' (first | (exact eqA) | (refine shE ?_) | (refine And.intro ?_ ?_))
     have : l ≠ m := fun e => by subst e; exact hne rfl
     simp [this]
    ·have heq : lfAt l k = lfAt m k := by simp [eqC] at h; exact Prod.ext h.1 h.2
     repeat ((try conv => whnf); first | (refine stpQ ?_))
     refine ⟨k + 1, ⟨by omega, ?_⟩, by omega, ?_⟩
     ·rw [z1e l k hk1, z1e m k hk2, hp, heq]
     ·(refine z04 (by rfl) ?_ ?_) <;> repeat' (first | (exact eqA) | (refine shE ?_) | (refine And.intro ?_ ?_))
   ·obtain rfl : k = l.length := by omega
    have hlm : l = m := by
     rw [List.take_length] at hp
     rw [hp, he, List.take_length]
    repeat ((try conv => whnf); first | (refine stpQ ?_))
    (refine z00 (by rfl) ?_ ?_ (by rfl)) <;> repeat' (first | (exact eqA) | (refine shE ?_) | (refine And.intro ?_ ?_))
    simp [hlm]
theorem zcd (l : List Lf) (nm : Bs) (hl : (l.length : Int) ≤ 1000000000) : CT Tryz.prog 148 [] [.sl 2 (lvE l), .str nm] (.tup [.str ((z1d l nm).getD []), .bool (z1d l nm).isSome]) [] := by
 have hlen := z0E l
 refine z01 z0M 1 rfl Tryz.func148 rfl rfl rfl ?_
 repeat ((try conv => whnf); first | (refine stpQ ?_))
 refine z0P Nat (fun k => ⟨[(0, .sl 2 (lvE l)), (1, .str nm), (6, .int .i64 (k : Int))], [], 2⟩) (fun k => k ≤ l.length ∧ z1d (l.take k) nm = none) (fun k => l.length - k) 0 ⟨by omega, rfl⟩ ?_ ?_
 ·(refine z04 (by rfl) ?_ ?_) <;> repeat' (first | (exact eqA) | (refine shE ?_) | (refine And.intro ?_ ?_))
 ·rintro k ⟨hk, hp⟩
  by_cases hlt : k < l.length
  ·repeat ((try conv => whnf); first | (refine i_at (z1j hlt) ?_) | (refine stpQ ?_))
   ((try conv => whnf); first | (refine cb_d (fun h => ?_) (fun h => ?_)) | (refine cb_n (fun h => ?_) (fun h => ?_)) | (refine cb (fun h => ?_) (fun h => ?_)))
   ·have hg := zbd hlt hp h
    repeat ((try conv => whnf); first | (refine i_at (z1j hlt) ?_) | (refine stpQ ?_))
    rw [hg]
    (refine z00 (by rfl) ?_ ?_ (by rfl)) <;> (repeat' (first | (exact eqA) | (refine shE ?_) | (refine And.intro ?_ ?_))) <;> rfl
   ·have hg := zbc hlt hp h
    repeat ((try conv => whnf); first | (refine stpQ ?_))
    refine ⟨k + 1, ⟨by omega, hg⟩, by omega, ?_⟩
    (refine z04 (by rfl) ?_ ?_) <;> repeat' (first | (exact eqA) | (refine shE ?_) | (refine And.intro ?_ ?_))
  ·obtain rfl : k = l.length := by omega
   rw [List.take_length] at hp
   repeat ((try conv => whnf); first | (refine stpQ ?_))
   rw [hp]
   (refine z00 (by rfl) ?_ ?_ (by rfl)) <;> (repeat' (first | (exact eqA) | (refine shE ?_) | (refine And.intro ?_ ?_))) <;> rfl
theorem z9K (l : List Lf) (nm : Bs) (hl : (l.length : Int) ≤ 100000000) (hf : Fit l) : CT Tryz.prog 113 [] [.sl 2 (lvE l), .str nm] (.tup [.ref 1, .bool (z3Q l nm).2]) [.row 2 (lvE (z3Q l nm).1)] := by
 have hlen := z0E l
 have cG := zcd l nm (by omega)
 have cO := z2g l (by omega) hf
 have cW := z8H l nm (by omega)
 refine z01 z0M 1 rfl Tryz.func113 rfl rfl rfl ?_
 unfold z3Q
 generalize z0f l = b1 at cO ⊢
 generalize z1d l nm = o at cG ⊢
 cases b1 <;> cases o
 all_goals
  repeat ((try conv => whnf); first | (refine ccA ([]) (cG) ?_) | (refine ccA ([]) (cO) ?_) | (refine ccA ([]) (cW) ?_) | (refine And.intro (by simp [z0E]; omega) ?_) | (refine stpQ ?_))
  (refine z00 (by rfl) ?_ ?_ (by rfl)) <;> (repeat' (first | (exact eqA) | (refine shE ?_) | (refine And.intro ?_ ?_))) <;> first | rfl | decide
end Go.Proofs.YthbdlnogojcnmaaGreatDoor
namespace Go.Proofs.YthbdlnogojcnmaaGreatDoor
set_option linter.unusedVariables false
set_option linter.unusedSimpArgs false
set_option linter.unusedSectionVars false
open Go.RowKit Pl
attribute [local irreducible] z0p z0r z0y AnsP LeP
def Small9 (l : List Lf) : Prop := ∀ x ∈ l, (x.1.length : Int) ≤ 9 ∧ (x.2.length : Int) ≤ 9
theorem Small9.fit {l : List Lf} (h : Small9 l) : Fit l := fun i => by
 unfold lfAt
 rcases Nat.lt_or_ge i l.length with hl | hl
 ·have := h l[i] (List.getElem_mem hl)
  simp only [List.getD, List.getElem?_eq_getElem hl, Option.getD_some]
  omega
 ·simp [List.getD, List.getElem?_eq_none hl]
theorem Small9.put {l : List Lf} {n v : Bs} (h : Small9 l) (hn : (n.length : Int) ≤ 9) (hv : (v.length : Int) ≤ 9) : Small9 (putL l n v) := by
 intro x hx
 simp only [putL, lowL, z3P, z0Q, List.mem_append, List.mem_filter, List.mem_singleton] at hx
 rcases hx with (hx | hx) | hx
 ·exact h x hx.1.1
 ·subst hx; exact ⟨hn, hv⟩
 ·exact h x hx.1.1
inductive DR (c : Bs) : Nat → List Lf → Nat → Int → List Lf → Nat → Int → Prop
 | stop {k l i h x i' h'} : i' ≤ c.length → x ≤ k → CT Tryz.prog 54 [curE c i h] [.ptr 1 0 0, .int .i64 9] (.int .i64 ((x : Nat) : Int)) [curE c i' h'] → DR c k l i h l i' h'
 | step {k l i h x i1 h1 s i2 h2 v i3 h3 l' i' h'} : x < 9 → k < x → i1 ≤ c.length → CT Tryz.prog 54 [curE c i h] [.ptr 1 0 0, .int .i64 9] (.int .i64 ((x : Nat) : Int)) [curE c i1 h1] →
    (z10 s = true ∧ s.length ≤ 9) → i2 ≤ c.length → CT Tryz.prog 32 [curE c i1 h1] [.ptr 1 0 0] (.str s) [curE c i2 h2] →
    (z0L v = true ∧ v.length ≤ 9) → i3 ≤ c.length → CT Tryz.prog 122 [curE c i2 h2] [.ptr 1 0 0] (.str v) [curE c i3 h3] →
    DR c (k + 1) (putR l s v).1 i3 h3 l' i' h' → DR c k l i h l' i' h'
end Go.Proofs.YthbdlnogojcnmaaGreatDoor
namespace Go.Proofs.YthbdlnogojcnmaaGreatDoor
set_option maxRecDepth 100000
set_option maxHeartbeats 1000000
set_option linter.unusedVariables false
set_option linter.unusedSimpArgs false
set_option linter.unusedSectionVars false
open Go.RowKit Pl
attribute [local irreducible] z0p z0r z0y AnsP LeP
theorem w_muln {a n : Nat} {K : Int → Prop} (h : a * OfNat.ofNat n ≤ 9223372036854775807) (hk : K ((a * OfNat.ofNat n : Nat) : Int)) : ∃ r, r = IntKind.i64.wrap ((a : Int) * (OfNat.ofNat n : Int)) ∧ K r :=
 w_mul (b := OfNat.ofNat n) h hk
theorem z3U (c : Bs) (i : Nat) (h : Int) (n : Nat) (hc : (c.length : Int) ≤ 1048576) (hi : i ≤ c.length) (hn : 0 < n) : ∃ (x i' : Nat) (h' : Int), x < n ∧ i' ≤ c.length ∧ CT Tryz.prog 54 [curE c i h] [.ptr 1 0 0, .int .i64 (n : Int)] (.int .i64 (x : Int)) [curE c i' h'] := by
 by_cases h256 : n ≤ 256
 ·exact z4A c i h n hc hi ⟨hn, h256⟩
 ·obtain ⟨x, i1, h1, hx, hi1, k1⟩ := z3g c i h hc hi
  obtain ⟨y, i2, h2, hy, hi2, k2⟩ := z3g c i1 h1 hc hi1
  obtain ⟨z, i3, h3, hz, hi3, k3⟩ := z3g c i2 h2 hc hi2
  obtain ⟨v, i4, h4, hv, hi4, k4⟩ := z3g c i3 h3 hc hi3
  refine ⟨(x * 16777216 + y * 65536 + z * 256 + v) % n, i4, h4, Nat.mod_lt _ hn, hi4, z01 z0M 2 rfl Tryz.func54 rfl rfl rfl ?_⟩
  repeat ((try conv => whnf); first | (refine ccB ([1]) (k1) ?_) | (refine ccB ([1]) (k2) ?_) | (refine ccB ([1]) (k3) ?_) | (refine ccB ([1]) (k4) ?_) | (refine w_muln (by omega) ?_) | (refine r_rem ?_) | (refine stpQ ?_))
  (refine z00 (by rfl) ?_ ?_ (by rfl)) <;> repeat' (first | (exact eqA) | (refine shE ?_) | (refine And.intro ?_ ?_))
theorem c_once (c : Bs) (i : Nat) (h : Int) (n : Nat) (hc : (c.length : Int) ≤ 1048576) (hi : i ≤ c.length) (hn : 0 < n) : ∃ (x : Bool) (i' : Nat) (h' : Int), i' ≤ c.length ∧ CT Tryz.prog 123 [curE c i h] [.ptr 1 0 0, .int .i64 (n : Int)] (.bool x) [curE c i' h'] := by
 obtain ⟨x, i', h', hx, hi', k⟩ := z3U c i h n hc hi hn
 refine ⟨decide ((x : Int) = 0), i', h', hi', z01 z0M 2 rfl Tryz.func123 rfl rfl rfl ?_⟩
 repeat ((try conv => whnf); first | (refine ccB ([1]) (k) ?_) | (refine stpQ ?_))
 (refine z00 (by rfl) ?_ ?_ (by rfl)) <;> repeat' (first | (exact eqA) | (refine shE ?_) | (refine And.intro ?_ ?_))
inductive TR (c : Bs) : Nat → Nat → Int → Bs → Bs → Nat → Int → Prop
 | stop {i h out} : TR c 0 i h out out i h
 | step {n i h out x i1 h1 out' i' h'} : x ≤ 255 → i1 ≤ c.length → CT Tryz.prog 53 [curE c i h] [.ptr 1 0 0] (.int .i64 ((x : Nat) : Int)) [curE c i1 h1] → TR c n i1 h1 (out ++ [UInt8.ofNat x]) out' i' h' → TR c (n + 1) i h out out' i' h'
end Go.Proofs.YthbdlnogojcnmaaGreatDoor
