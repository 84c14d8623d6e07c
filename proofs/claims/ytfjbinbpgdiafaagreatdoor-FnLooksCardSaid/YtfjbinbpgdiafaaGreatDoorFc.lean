/- Functions by content: an entry is looked up, put, dropped. Functions by content: an entry is dropped; one is put, by the reference; lists are compared. Functions by content: lists and names drawn. Functions by content: more of what is drawn: any bound, texts, spoilt texts. -/
import Derived.Test.YtfjbinbpgdiafaaGreatDoorFa
import Derived.Test.YtfjbinbpgdiafaaGreatDoorPlainM
import Derived.Test.YtfjbinbpgdiafaaGreatDoorFb
namespace Go.Proofs.YtfjbinbpgdiafaaGreatDoor
set_option maxRecDepth 100000
set_option maxHeartbeats 1000000
set_option linter.unusedVariables false
set_option linter.unusedSimpArgs false
set_option linter.unusedSectionVars false
open Go.RowKit Pl
attribute [local irreducible] z0r z0s z0z AnsP LeP
theorem z1X (l : List Lf) (hl : (l.length : Int) ≤ 1000000000) : CT Tryz.prog 218 [] [.sl 2 (lvE l)] (.ref 1) [.row 2 (lvE l)] := by
 have hlen := z0B l
 refine z01 z0v 1 rfl Tryz.func218 rfl rfl rfl ?_
 repeat ((try conv => whnf); first | (refine stpQ ?_))
 (refine z00 (by rfl) ?_ ?_ (by rfl)) <;> repeat' (first | (exact eqA) | (refine shE ?_) | (refine And.intro ?_ ?_))
theorem zdB (l : List Lf) (nm : Bs) (hl : (l.length : Int) ≤ 1000000000) : CT Tryz.prog 96 [] [.sl 2 (lvE l), .str nm] (.tup [.str ((z1l l nm).getD []), .bool (z1l l nm).isSome]) [] := by
 have hlen := z0B l
 refine z01 z0v 1 rfl Tryz.func96 rfl rfl rfl ?_
 repeat ((try conv => whnf); first | (refine stpQ ?_))
 refine z0K Nat (fun k => ⟨[(1, .str nm), (8, .sl 2 (lvE l)), (9, .int .i64 ((lvE l).length : Int)), (10, .int .i64 (k : Int))], [], 2⟩) (fun k => k ≤ l.length ∧ z1l (l.take k) nm = none) (fun k => l.length - k) 0 ⟨by omega, rfl⟩ ?_ ?_
 ·(refine z02 (by rfl) ?_ ?_) <;> repeat' (first | (exact eqA) | (refine shE ?_) | (refine And.intro ?_ ?_))
 ·rintro k ⟨hk, hp⟩
  repeat ((try conv => whnf); first | (refine stpQ ?_))
  ((try conv => whnf); first | (refine cb_d (fun h => ?_) (fun h => ?_)) | (refine cb_n (fun h => ?_) (fun h => ?_)) | (refine cb (fun h => ?_) (fun h => ?_)))
  ·have hlt : k < l.length := by omega
   repeat ((try conv => whnf); first | (refine i_at (z1f hlt) ?_) | (refine stpQ ?_))
   ((try conv => whnf); first | (refine cb_d (fun h => ?_) (fun h => ?_)) | (refine cb_n (fun h => ?_) (fun h => ?_)) | (refine cb (fun h => ?_) (fun h => ?_)))
   ·have hg := zba hlt hp h
    repeat ((try conv => whnf); first | (refine stpQ ?_))
    rw [hg]
    (refine z00 (by rfl) ?_ ?_ (by rfl)) <;> (repeat' (first | (exact eqA) | (refine shE ?_) | (refine And.intro ?_ ?_))) <;> rfl
   ·have hg := zb9 hlt hp h
    repeat ((try conv => whnf); first | (refine stpQ ?_))
    refine ⟨k + 1, ⟨by omega, hg⟩, by omega, ?_⟩
    (refine z02 (by rfl) ?_ ?_) <;> repeat' (first | (exact eqA) | (refine shE ?_) | (refine And.intro ?_ ?_))
  ·obtain rfl : k = l.length := by omega
   rw [List.take_length] at hp
   repeat ((try conv => whnf); first | (refine stpQ ?_))
   rw [hp]
   (refine z00 (by rfl) ?_ ?_ (by rfl)) <;> (repeat' (first | (exact eqA) | (refine shE ?_) | (refine And.intro ?_ ?_))) <;> rfl
theorem z8D (l : List Lf) (nm : Bs) (hl : (l.length : Int) ≤ 100000000) : CT Tryz.prog 194 [] [.sl 2 (lvE l), .str nm] (.ref 1) [.row 2 (lvE (z0P l nm))] := by
 have hlen := z0B l
 refine z01 z0v 1 rfl Tryz.func194 rfl rfl rfl ?_
 repeat ((try conv => whnf); first | (refine stpQ ?_))
 refine z0K Nat (fun k => ⟨[(0, .sl 2 (lvE l)), (1, .str nm), (5, .ref 1), (6, .int .i64 (k : Int))], [(1, some (.row 2 (lvE (z0P (l.take k) nm))))], 2⟩) (fun k => k ≤ l.length) (fun k => l.length - k) 0 (by omega) ?_ ?_
 ·(refine z02 (by rfl) ?_ ?_) <;> (repeat' (first | (exact eqA) | (refine shE ?_) | (refine And.intro ?_ ?_))) <;> first | rfl | decide
 ·intro k hk
  repeat ((try conv => whnf); first | (refine stpQ ?_))
  ((try conv => whnf); first | (refine cb_d (fun h => ?_) (fun h => ?_)) | (refine cb_n (fun h => ?_) (fun h => ?_)) | (refine cb (fun h => ?_) (fun h => ?_)))
  ·have hk2 : k < l.length := by omega
   repeat ((try conv => whnf); first | (refine i_at (z1f hk2) ?_) | (refine stpQ ?_))
   ((try conv => whnf); first | (refine cb_d (fun h => ?_) (fun h => ?_)) | (refine cb_n (fun h => ?_) (fun h => ?_)) | (refine cb (fun h => ?_) (fun h => ?_)))
   ·have hw : (z0P (l.take k) nm).length ≤ k := Nat.le_trans (List.length_filter_le _ _) (by simp; omega)
    repeat ((try conv => whnf); first | (refine i_at (z1f hk2) ?_) | (refine And.intro (by simp [z0B]; omega) ?_) | (refine stpQ ?_))
    refine ⟨k + 1, by omega, by omega, ?_⟩
    (refine z02 (by rfl) ?_ ?_) <;> repeat' (first | (exact eqA) | (refine shE ?_) | (refine And.intro ?_ ?_))
    rw [z3b hk2, if_neg h, z2C]; rfl
   ·repeat ((try conv => whnf); first | (refine stpQ ?_))
    refine ⟨k + 1, by omega, by omega, ?_⟩
    (refine z02 (by rfl) ?_ ?_) <;> repeat' (first | (exact eqA) | (refine shE ?_) | (refine And.intro ?_ ?_))
    rw [z3b hk2, if_pos h, List.append_nil]
  ·obtain rfl : k = l.length := by omega
   repeat ((try conv => whnf); first | (refine stpQ ?_))
   (refine z00 (by rfl) ?_ ?_ (by rfl)) <;> repeat' (first | (exact eqA) | (refine shE ?_) | (refine And.intro ?_ ?_))
   rw [List.take_length]
theorem zdC (l : List Lf) (nm vl : Bs) (hl : (l.length : Int) ≤ 100000000) (hf : Fit l) (hf2 : Fit (insL l nm vl)) : CT Tryz.prog 229 [] [.sl 2 (lvE l), .str nm, .str vl] (.tup [.ref 1, .bool (insR l nm vl).2]) [.row 2 (lvE (insR l nm vl).1)] := by
 have hlen := z0B l
 have hil : (insL l nm vl).length ≤ 2 * l.length + 1 := by
  have := zbb nm vl l l.length
  rw [List.take_length] at this
  unfold insL
  cases (insF l nm vl).2 <;> simp <;> omega
 refine z01 z0v 1 rfl Tryz.func229 rfl rfl rfl ?_
 repeat ((try conv => whnf); first | (refine ccA ([]) (z2D l (by omega) hf) ?_) | (refine stpQ ?_))
 ((try conv => whnf); first | (refine cb_d (fun h => ?_) (fun h => ?_)) | (refine cb_n (fun h => ?_) (fun h => ?_)) | (refine cb (fun h => ?_) (fun h => ?_)))
 ·have ho : z0b l = false := by simpa using h
  have hr : insR l nm vl = (l, false) := by simp [insR, ho]
  rw [hr]
  repeat ((try conv => whnf); first | (refine ccA ([]) (z1X l (by omega)) ?_) | (refine stpQ ?_))
  (refine z00 (by rfl) ?_ ?_ (by rfl)) <;> repeat' (first | (exact eqA) | (refine shE ?_) | (refine And.intro ?_ ?_))
 ·have ho : z0b l = true := by simpa using h
  repeat ((try conv => whnf); first | (refine stpQ ?_))
  refine z0K Nat (fun k => ⟨[(0, .sl 2 (lvE l)), (1, .str nm), (2, .str vl), (8, .ref 1), (9, .bool (insF (l.take k) nm vl).2), (17, .sl 2 (lvE l)), (18, .int .i64 ((lvE l).length : Int)), (19, .int .i64 (k : Int))], [(1, some (.row 2 (lvE (insF (l.take k) nm vl).1)))], 2⟩) (fun k => k ≤ l.length) (fun k => l.length - k) 0 (by omega) ?_ ?_
  ·(refine z02 (by rfl) ?_ ?_) <;> (repeat' (first | (exact eqA) | (refine shE ?_) | (refine And.intro ?_ ?_))) <;> first | rfl | decide
  ·intro k hk
   have hfl := zbb nm vl l k
   repeat ((try conv => whnf); first | (refine stpQ ?_))
   ((try conv => whnf); first | (refine cb_d (fun h => ?_) (fun h => ?_)) | (refine cb_n (fun h => ?_) (fun h => ?_)) | (refine cb (fun h => ?_) (fun h => ?_)))
   ·have hk2 : k < l.length := by omega
    have hnx := zdl (n := nm) (v := vl) hk2
    generalize insF (l.take k) nm vl = st at hnx hfl ⊢
    obtain ⟨o, d⟩ := st
    simp only at hfl
    have hol := z0B o
    repeat' (first | ((try conv => whnf); first | (refine i_at (z1f hk2) ?_) | (refine And.intro (by simp [z0B]; omega) ?_) | (refine stpQ ?_)) | ((try conv => whnf); first | (refine cb_d (fun h => ?_) (fun h => ?_)) | (refine cb_n (fun h => ?_) (fun h => ?_)) | (refine cb (fun h => ?_) (fun h => ?_))))
    all_goals
     refine ⟨k + 1, by omega, by omega, ?_⟩
     rw [hnx]
     (refine z02 (by rfl) ?_ ?_) <;> repeat' (first | (exact eqA) | (refine shE ?_) | (refine And.intro ?_ ?_))
    all_goals first
     | (simp_all [insS, ltB, lvE]; done)
   ·obtain rfl : k = l.length := by omega
    rw [List.take_length] at hfl ⊢
    generalize hst : insF l nm vl = st at hfl ⊢
    obtain ⟨o, d⟩ := st
    simp only at hfl
    have hol := z0B o
    have hil2 : insL l nm vl = bif d then o else o ++ [(nm, vl)] := by rw [insL, hst]
    cases d
    ·have e1 : lvE o ++ [[.str nm, .str vl]] = lvE (insL l nm vl) := by rw [hil2]; simp [lvE]
     have hR : insR l nm vl = bif z0b (insL l nm vl) then (insL l nm vl, true) else (l, false) := by rw [insR, ho]; rfl
     repeat ((try conv => whnf); first | (refine And.intro (by simp [z0B]; omega) ?_) | (refine stpQ ?_))
     ((try conv => whnf); refine z2B ([]) (z2D (insL l nm vl) (by omega) hf2) ?_ (by ((repeat' (first | (exact trivial) | (exact rfl) | (refine And.intro ?_ ?_))); first | done | fail)) (by decide) (by rfl) (by first | exact .inl rfl | (refine .inr ⟨?_, ?_⟩ <;> simp [own2, own1, own0, ownE])) ?_)
     ·exact ⟨⟨congrArg (fun e => some (Ent.row 2 e)) e1, rfl⟩, rfl⟩
     ·repeat ((try conv => whnf); first | (refine stpQ ?_))
      ((try conv => whnf); first | (refine cb_d (fun h => ?_) (fun h => ?_)) | (refine cb_n (fun h => ?_) (fun h => ?_)) | (refine cb (fun h => ?_) (fun h => ?_)))
      ·have ho2 : z0b (insL l nm vl) = false := by simpa using h
       rw [hR, ho2, cond_false]
       repeat ((try conv => whnf); first | (refine ccA ([]) (z1X l (by omega)) ?_) | (refine stpQ ?_))
       (refine z00 (by rfl) ?_ ?_ (by rfl)) <;> repeat' (first | (exact eqA) | (refine shE ?_) | (refine And.intro ?_ ?_))
      ·have ho2 : z0b (insL l nm vl) = true := by simpa using h
       rw [hR, ho2, cond_true]
       repeat ((try conv => whnf); first | (refine stpQ ?_))
       (refine z00 (by rfl) ?_ ?_ (by rfl)) <;> repeat' (first | (exact eqA) | (refine shE ?_) | (refine And.intro ?_ ?_))
       exact e1
    ·have e1 : lvE o = lvE (insL l nm vl) := by rw [hil2]; rfl
     have hR : insR l nm vl = bif z0b (insL l nm vl) then (insL l nm vl, true) else (l, false) := by rw [insR, ho]; rfl
     repeat ((try conv => whnf); first | (refine stpQ ?_))
     ((try conv => whnf); refine z2B ([]) (z2D (insL l nm vl) (by omega) hf2) ?_ (by ((repeat' (first | (exact trivial) | (exact rfl) | (refine And.intro ?_ ?_))); first | done | fail)) (by decide) (by rfl) (by first | exact .inl rfl | (refine .inr ⟨?_, ?_⟩ <;> simp [own2, own1, own0, ownE])) ?_)
     ·exact ⟨⟨congrArg (fun e => some (Ent.row 2 e)) e1, rfl⟩, rfl⟩
     ·repeat ((try conv => whnf); first | (refine stpQ ?_))
      ((try conv => whnf); first | (refine cb_d (fun h => ?_) (fun h => ?_)) | (refine cb_n (fun h => ?_) (fun h => ?_)) | (refine cb (fun h => ?_) (fun h => ?_)))
      ·have ho2 : z0b (insL l nm vl) = false := by simpa using h
       rw [hR, ho2, cond_false]
       repeat ((try conv => whnf); first | (refine ccA ([]) (z1X l (by omega)) ?_) | (refine stpQ ?_))
       (refine z00 (by rfl) ?_ ?_ (by rfl)) <;> repeat' (first | (exact eqA) | (refine shE ?_) | (refine And.intro ?_ ?_))
      ·have ho2 : z0b (insL l nm vl) = true := by simpa using h
       rw [hR, ho2, cond_true]
       repeat ((try conv => whnf); first | (refine stpQ ?_))
       (refine z00 (by rfl) ?_ ?_ (by rfl)) <;> repeat' (first | (exact eqA) | (refine shE ?_) | (refine And.intro ?_ ?_))
       exact e1
end Go.Proofs.YtfjbinbpgdiafaaGreatDoor
namespace Go.Proofs.YtfjbinbpgdiafaaGreatDoor
set_option maxRecDepth 100000
set_option maxHeartbeats 1000000
set_option linter.unusedVariables false
set_option linter.unusedSimpArgs false
set_option linter.unusedSectionVars false
open Go.RowKit Pl
attribute [local irreducible] z0r z0s z0z AnsP LeP
theorem zc3 (l : List Lf) (nm : Bs) (hl : (l.length : Int) ≤ 100000000) (hf : Fit l) : CT Tryz.prog 228 [] [.sl 2 (lvE l), .str nm] (.tup [.ref 1, .bool (z3U l nm).2]) [.row 2 (lvE (z3U l nm).1)] := by
 have hlen := z0B l
 refine z01 z0v 1 rfl Tryz.func228 rfl rfl rfl ?_
 repeat' (first | ((try conv => whnf); first | (refine ccA ([]) (zdB l nm (by omega)) ?_) | (refine ccA ([]) (z2D l (by omega) hf) ?_) | (refine ccA ([]) (z1X l (by omega)) ?_) | (refine stpQ ?_)) | ((try conv => whnf); first | (refine cb_d (fun h => ?_) (fun h => ?_)) | (refine cb_n (fun h => ?_) (fun h => ?_)) | (refine cb (fun h => ?_) (fun h => ?_))))
 ·have e : z3U l nm = (l, false) := by simp at h; simp [z3U, h]
  rw [e]
  (refine z00 (by rfl) ?_ ?_ (by rfl)) <;> repeat' (first | (exact eqA) | (refine shE ?_) | (refine And.intro ?_ ?_))
 ·have e : z3U l nm = (l, false) := by simp at h; simp [z3U, h]
  rw [e]
  (refine z00 (by rfl) ?_ ?_ (by rfl)) <;> repeat' (first | (exact eqA) | (refine shE ?_) | (refine And.intro ?_ ?_))
 ·rename_i h0
  have e : z3U l nm = (z0P l nm, true) := by simp at h h0; simp [z3U, h, h0]
  rw [e]
  refine z0K Nat (fun k => ⟨[(1, .str nm), (8, .ref 1), (26, .sl 2 (lvE l)), (27, .int .i64 ((lvE l).length : Int)), (28, .int .i64 (k : Int))], [(1, some (.row 2 (lvE (z0P (l.take k) nm))))], 2⟩) (fun k => k ≤ l.length) (fun k => l.length - k) 0 (by omega) ?_ ?_
  ·(refine z02 (by rfl) ?_ ?_) <;> (repeat' (first | (exact eqA) | (refine shE ?_) | (refine And.intro ?_ ?_))) <;> first | rfl | decide
  ·intro k hk
   have hw : (z0P (l.take k) nm).length ≤ k := Nat.le_trans (List.length_filter_le _ _) (by simp; omega)
   repeat ((try conv => whnf); first | (refine stpQ ?_))
   ((try conv => whnf); first | (refine cb_d (fun h => ?_) (fun h => ?_)) | (refine cb_n (fun h => ?_) (fun h => ?_)) | (refine cb (fun h => ?_) (fun h => ?_)))
   ·have hk2 : k < l.length := by omega
    have hnx := z3b (n := nm) hk2
    repeat ((try conv => whnf); first | (refine i_at (z1f hk2) ?_) | (refine stpQ ?_))
    ((try conv => whnf); first | (refine cb_d (fun h => ?_) (fun h => ?_)) | (refine cb_n (fun h => ?_) (fun h => ?_)) | (refine cb (fun h => ?_) (fun h => ?_)))
    ·repeat ((try conv => whnf); first | (refine And.intro (by simp [z0B]; omega) ?_) | (refine stpQ ?_))
     refine ⟨k + 1, by omega, by omega, ?_⟩
     (refine z02 (by rfl) ?_ ?_) <;> (repeat' (first | (exact eqA) | (refine shE ?_) | (refine And.intro ?_ ?_)))
     rw [hnx, if_neg ‹_›, z2C]; rfl
    ·repeat ((try conv => whnf); first | (refine stpQ ?_))
     refine ⟨k + 1, by omega, by omega, ?_⟩
     (refine z02 (by rfl) ?_ ?_) <;> (repeat' (first | (exact eqA) | (refine shE ?_) | (refine And.intro ?_ ?_)))
     rw [hnx, if_pos ‹_›, List.append_nil]
   ·obtain rfl : k = l.length := by omega
    rw [List.take_length]
    repeat ((try conv => whnf); first | (refine stpQ ?_))
    (refine z00 (by rfl) ?_ ?_ (by rfl)) <;> repeat' (first | (exact eqA) | (refine shE ?_) | (refine And.intro ?_ ?_))
theorem zc4 (l : List Lf) (nm vl : Bs) (hl : (l.length : Int) ≤ 10000000) (hf : Fit l) (hf2 : Fit (putL l nm vl)) : CT Tryz.prog 168 [] [.sl 2 (lvE l), .str nm, .str vl] (.tup [.ref 1, .bool (putR l nm vl).2]) [.row 2 (lvE (putR l nm vl).1)] := by
 have hlen := z0B l
 refine z01 z0v 1 rfl Tryz.func168 rfl rfl rfl ?_
 repeat ((try conv => whnf); first | (refine ccA ([]) (z8D l nm (by omega)) ?_) | (refine stpQ ?_))
 generalize hr : z0P l nm = r
 have hrl : r.length ≤ l.length := by rw [← hr]; exact List.length_filter_le _ _
 have hlr := z0B r
 refine z0K Nat (fun k => ⟨[(0, .sl 2 (lvE l)), (1, .str nm), (2, .str vl), (8, .ref 1), (9, .ref 2), (10, .int .i64 (k : Int))], [(1, some (.row 2 (lvE (lowL (r.take k) nm)))), (2, some (.row 2 (lvE r)))], 3⟩) (fun k => k ≤ r.length) (fun k => r.length - k) 0 (by omega) ?_ ?_
 ·(refine z02 (by rfl) ?_ ?_) <;> (repeat' (first | (exact eqA) | (refine shE ?_) | (refine And.intro ?_ ?_))) <;> first | rfl | decide
 ·intro k hk
  have hw : (lowL (r.take k) nm).length ≤ k := Nat.le_trans (List.length_filter_le _ _) (by simp; omega)
  repeat ((try conv => whnf); first | (refine stpQ ?_))
  ((try conv => whnf); first | (refine cb_d (fun h => ?_) (fun h => ?_)) | (refine cb_n (fun h => ?_) (fun h => ?_)) | (refine cb (fun h => ?_) (fun h => ?_)))
  ·have hk2 : k < r.length := by omega
   have hnx := zdm (n := nm) hk2
   repeat ((try conv => whnf); first | (refine Exists.intro _ (And.intro (z1f hk2) ?_)) | (refine stpQ ?_))
   ((try conv => whnf); first | (refine cb_d (fun h => ?_) (fun h => ?_)) | (refine cb_n (fun h => ?_) (fun h => ?_)) | (refine cb (fun h => ?_) (fun h => ?_)))
   ·repeat ((try conv => whnf); first | (refine Exists.intro _ (And.intro (z1f hk2) ?_)) | (refine And.intro (by simp [z0B]; omega) ?_) | (refine stpQ ?_))
    refine ⟨k + 1, by omega, by omega, ?_⟩
    (refine z02 (by rfl) ?_ ?_) <;> (repeat' (first | (exact eqA) | (refine shE ?_) | (refine And.intro ?_ ?_)))
    rw [hnx, if_pos (show ltB (lfAt r k).1 nm = true from h), z2C]; rfl
   ·repeat ((try conv => whnf); first | (refine stpQ ?_))
    refine ⟨k + 1, by omega, by omega, ?_⟩
    (refine z02 (by rfl) ?_ ?_) <;> (repeat' (first | (exact eqA) | (refine shE ?_) | (refine And.intro ?_ ?_)))
    rw [hnx, if_neg (by rw [ltB, h]; decide), List.append_nil]
  ·obtain rfl : k = r.length := by omega
   rw [List.take_length] at hw ⊢
   repeat ((try conv => whnf); first | (refine And.intro (by simp [z0B]; omega) ?_) | (refine stpQ ?_))
   refine z0K Nat (fun k => ⟨[(0, .sl 2 (lvE l)), (1, .str nm), (2, .str vl), (8, .ref 1), (9, .ref 2), (11, .int .i64 (k : Int))], [(1, some (.row 2 (lvE (lowL r nm ++ [(nm, vl)] ++ z3T (r.take k) nm)))), (2, some (.row 2 (lvE r)))], 3⟩) (fun k => k ≤ r.length) (fun k => r.length - k) 0 (by omega) ?_ ?_
   ·(refine z02 (by rfl) ?_ ?_) <;> (repeat' (first | (exact eqA) | (refine shE ?_) | (refine And.intro ?_ ?_))) <;> first | decide | (simp [lvE, z3T]; done)
   ·intro k hk
    have hw2 : (z3T (r.take k) nm).length ≤ k := Nat.le_trans (List.length_filter_le _ _) (by simp; omega)
    have hlo := z0B (lowL r nm ++ [(nm, vl)] ++ z3T (r.take k) nm)
    simp only [List.length_append, List.length_singleton] at hlo
    repeat ((try conv => whnf); first | (refine stpQ ?_))
    ((try conv => whnf); first | (refine cb_d (fun h => ?_) (fun h => ?_)) | (refine cb_n (fun h => ?_) (fun h => ?_)) | (refine cb (fun h => ?_) (fun h => ?_)))
    ·have hk2 : k < r.length := by omega
     have hnx := zbZ (n := nm) hk2
     repeat ((try conv => whnf); first | (refine Exists.intro _ (And.intro (z1f hk2) ?_)) | (refine stpQ ?_))
     ((try conv => whnf); first | (refine cb_d (fun h => ?_) (fun h => ?_)) | (refine cb_n (fun h => ?_) (fun h => ?_)) | (refine cb (fun h => ?_) (fun h => ?_)))
     ·repeat ((try conv => whnf); first | (refine Exists.intro _ (And.intro (z1f hk2) ?_)) | (refine And.intro (by simp [z0B]; omega) ?_) | (refine stpQ ?_))
      refine ⟨k + 1, by omega, by omega, ?_⟩
      (refine z02 (by rfl) ?_ ?_) <;> (repeat' (first | (exact eqA) | (refine shE ?_) | (refine And.intro ?_ ?_)))
      rw [hnx, if_pos (show (!(ltB (lfAt r k).1 nm || decide ((lfAt r k).1 = nm))) = true from h)]
      simp [lvE]
     ·repeat ((try conv => whnf); first | (refine stpQ ?_))
      refine ⟨k + 1, by omega, by omega, ?_⟩
      (refine z02 (by rfl) ?_ ?_) <;> (repeat' (first | (exact eqA) | (refine shE ?_) | (refine And.intro ?_ ?_)))
      rw [hnx, if_neg (show ¬ (!(ltB (lfAt r k).1 nm || decide ((lfAt r k).1 = nm))) = true from fun c => by rw [ltB, h] at c; cases c), List.append_nil]
    ·obtain rfl : k = r.length := by omega
     rw [List.take_length] at hw2 hlo ⊢
     have hP : lowL r nm ++ [(nm, vl)] ++ z3T r nm = putL l nm vl := by rw [putL, hr]
     rw [hP] at hlo ⊢
     have hpl := z0B (putL l nm vl)
     repeat ((try conv => whnf); first | (refine ccA ([]) (z1s l (by omega) hf) ?_) | (refine stpQ ?_))
     ((try conv => whnf); first | (refine cb_d (fun h => ?_) (fun h => ?_)) | (refine cb_n (fun h => ?_) (fun h => ?_)) | (refine cb (fun h => ?_) (fun h => ?_)))
     ·have e : putR l nm vl = (l, false) := by simp at h; simp [putR, h]
      rw [e]
      repeat ((try conv => whnf); first | (refine And.intro (by simp [z0B]; omega) ?_) | (refine stpQ ?_))
      (refine z00 (by rfl) ?_ ?_ (by rfl)) <;> repeat' (first | (exact eqA) | (refine shE ?_) | (refine And.intro ?_ ?_))
      rfl
     ·repeat ((try conv => whnf); first | (refine ccA ([]) (z1s (putL l nm vl) (by omega) hf2) ?_) | (refine stpQ ?_))
      ((try conv => whnf); first | (refine cb_d (fun h => ?_) (fun h => ?_)) | (refine cb_n (fun h => ?_) (fun h => ?_)) | (refine cb (fun h => ?_) (fun h => ?_)))
      ·have e : putR l nm vl = (l, false) := by simp at h; simp [putR, h]
       rw [e]
       repeat ((try conv => whnf); first | (refine And.intro (by simp [z0B]; omega) ?_) | (refine stpQ ?_))
       (refine z00 (by rfl) ?_ ?_ (by rfl)) <;> repeat' (first | (exact eqA) | (refine shE ?_) | (refine And.intro ?_ ?_))
       rfl
      ·rename_i h0
       have e : putR l nm vl = (putL l nm vl, true) := by simp at h h0; simp [putR, h, h0]
       rw [e]
       repeat ((try conv => whnf); first | (refine stpQ ?_))
       (refine z00 (by rfl) ?_ ?_ (by rfl)) <;> repeat' (first | (exact eqA) | (refine shE ?_) | (refine And.intro ?_ ?_))
theorem z4Y (l m : List Lf) (hl : (l.length : Int) ≤ 100000000) (hm : (m.length : Int) ≤ 100000000) : CT Tryz.prog 49 [] [.sl 2 (lvE l), .sl 2 (lvE m)] (.bool (decide (l = m))) [] := by
 have h1 := z0B l
 have h2 := z0B m
 refine z01 z0v 1 rfl Tryz.func49 rfl rfl rfl ?_
 repeat ((try conv => whnf); first | (refine stpQ ?_))
 ((try conv => whnf); first | (refine cb_d (fun h => ?_) (fun h => ?_)) | (refine cb_n (fun h => ?_) (fun h => ?_)) | (refine cb (fun h => ?_) (fun h => ?_)))
 ·repeat ((try conv => whnf); first | (refine stpQ ?_))
  (refine z00 (by rfl) ?_ ?_ (by rfl)) <;> repeat' (first | (exact eqA) | (refine shE ?_) | (refine And.intro ?_ ?_))
  have : l ≠ m := fun e => by subst e; exact h rfl
  simp [this]
 ·repeat ((try conv => whnf); first | (refine stpQ ?_))
  have he : l.length = m.length := by omega
  refine z0K Nat (fun k => ⟨[(0, .sl 2 (lvE l)), (1, .sl 2 (lvE m)), (5, .int .i64 (k : Int))], [], 2⟩) (fun k => k ≤ l.length ∧ l.take k = m.take k) (fun k => l.length - k) 0 ⟨by omega, rfl⟩ ?_ ?_
  ·(refine z02 (by rfl) ?_ ?_) <;> repeat' (first | (exact eqA) | (refine shE ?_) | (refine And.intro ?_ ?_))
  ·rintro k ⟨hk, hp⟩
   repeat ((try conv => whnf); first | (refine stpQ ?_))
   ((try conv => whnf); first | (refine cb_d (fun h => ?_) (fun h => ?_)) | (refine cb_n (fun h => ?_) (fun h => ?_)) | (refine cb (fun h => ?_) (fun h => ?_)))
   ·have hk1 : k < l.length := by omega
    have hk2 : k < m.length := by omega
    repeat ((try conv => whnf); first | (refine i_at (z1f hk1) ?_) | (refine i_at (z1f hk2) ?_) | (refine stpQ ?_))
    ((try conv => whnf); first | (refine cb_d (fun h => ?_) (fun h => ?_)) | (refine cb_n (fun h => ?_) (fun h => ?_)) | (refine cb (fun h => ?_) (fun h => ?_)))
    ·have hne : lfAt l k ≠ lfAt m k := fun e => by rw [e] at h; simp [eqC] at h
     repeat ((try conv => whnf); first | (refine stpQ ?_))
     (refine z00 (by rfl) ?_ ?_ (by rfl)) <;> repeat' (first | (exact eqA) | (refine shE ?_) | (refine And.intro ?_ ?_))
     have : l ≠ m := fun e => by subst e; exact hne rfl
     simp [this]
    ·have heq : lfAt l k = lfAt m k := by simp [eqC] at h; exact Prod.ext h.1 h.2
     repeat ((try conv => whnf); first | (refine stpQ ?_))
     refine ⟨k + 1, ⟨by omega, ?_⟩, by omega, ?_⟩
     ·rw [z1n l k hk1, z1n m k hk2, hp, heq]
     ·(refine z02 (by rfl) ?_ ?_) <;> repeat' (first | (exact eqA) | (refine shE ?_) | (refine And.intro ?_ ?_))
   ·obtain rfl : k = l.length := by omega
    have hlm : l = m := by
     rw [List.take_length] at hp
     rw [hp, he, List.take_length]
    repeat ((try conv => whnf); first | (refine stpQ ?_))
    (refine z00 (by rfl) ?_ ?_ (by rfl)) <;> repeat' (first | (exact eqA) | (refine shE ?_) | (refine And.intro ?_ ?_))
    simp [hlm]
theorem zc5 (l : List Lf) (nm : Bs) (hl : (l.length : Int) ≤ 1000000000) : CT Tryz.prog 97 [] [.sl 2 (lvE l), .str nm] (.tup [.str ((z1l l nm).getD []), .bool (z1l l nm).isSome]) [] := by
 have hlen := z0B l
 refine z01 z0v 1 rfl Tryz.func97 rfl rfl rfl ?_
 repeat ((try conv => whnf); first | (refine stpQ ?_))
 refine z0K Nat (fun k => ⟨[(0, .sl 2 (lvE l)), (1, .str nm), (6, .int .i64 (k : Int))], [], 2⟩) (fun k => k ≤ l.length ∧ z1l (l.take k) nm = none) (fun k => l.length - k) 0 ⟨by omega, rfl⟩ ?_ ?_
 ·(refine z02 (by rfl) ?_ ?_) <;> repeat' (first | (exact eqA) | (refine shE ?_) | (refine And.intro ?_ ?_))
 ·rintro k ⟨hk, hp⟩
  by_cases hlt : k < l.length
  ·repeat ((try conv => whnf); first | (refine i_at (z1f hlt) ?_) | (refine stpQ ?_))
   ((try conv => whnf); first | (refine cb_d (fun h => ?_) (fun h => ?_)) | (refine cb_n (fun h => ?_) (fun h => ?_)) | (refine cb (fun h => ?_) (fun h => ?_)))
   ·have hg := zba hlt hp h
    repeat ((try conv => whnf); first | (refine i_at (z1f hlt) ?_) | (refine stpQ ?_))
    rw [hg]
    (refine z00 (by rfl) ?_ ?_ (by rfl)) <;> (repeat' (first | (exact eqA) | (refine shE ?_) | (refine And.intro ?_ ?_))) <;> rfl
   ·have hg := zb9 hlt hp h
    repeat ((try conv => whnf); first | (refine stpQ ?_))
    refine ⟨k + 1, ⟨by omega, hg⟩, by omega, ?_⟩
    (refine z02 (by rfl) ?_ ?_) <;> repeat' (first | (exact eqA) | (refine shE ?_) | (refine And.intro ?_ ?_))
  ·obtain rfl : k = l.length := by omega
   rw [List.take_length] at hp
   repeat ((try conv => whnf); first | (refine stpQ ?_))
   rw [hp]
   (refine z00 (by rfl) ?_ ?_ (by rfl)) <;> (repeat' (first | (exact eqA) | (refine shE ?_) | (refine And.intro ?_ ?_))) <;> rfl
theorem z9N (l : List Lf) (nm : Bs) (hl : (l.length : Int) ≤ 100000000) (hf : Fit l) : CT Tryz.prog 227 [] [.sl 2 (lvE l), .str nm] (.tup [.ref 1, .bool (z3U l nm).2]) [.row 2 (lvE (z3U l nm).1)] := by
 have hlen := z0B l
 have cG := zc5 l nm (by omega)
 have cO := z1s l (by omega) hf
 have cW := z8D l nm (by omega)
 refine z01 z0v 1 rfl Tryz.func227 rfl rfl rfl ?_
 unfold z3U
 generalize z0b l = b1 at cO ⊢
 generalize z1l l nm = o at cG ⊢
 cases b1 <;> cases o
 all_goals
  repeat ((try conv => whnf); first | (refine ccA ([]) (cG) ?_) | (refine ccA ([]) (cO) ?_) | (refine ccA ([]) (cW) ?_) | (refine And.intro (by simp [z0B]; omega) ?_) | (refine stpQ ?_))
  (refine z00 (by rfl) ?_ ?_ (by rfl)) <;> (repeat' (first | (exact eqA) | (refine shE ?_) | (refine And.intro ?_ ?_))) <;> first | rfl | decide
end Go.Proofs.YtfjbinbpgdiafaaGreatDoor
namespace Go.Proofs.YtfjbinbpgdiafaaGreatDoor
set_option linter.unusedVariables false
set_option linter.unusedSimpArgs false
set_option linter.unusedSectionVars false
open Go.RowKit Pl
attribute [local irreducible] z0r z0s z0z AnsP LeP
def Small9 (l : List Lf) : Prop := ∀ x ∈ l, (x.1.length : Int) ≤ 9 ∧ (x.2.length : Int) ≤ 9
theorem Small9.fit {l : List Lf} (h : Small9 l) : Fit l := fun i => by
 unfold lfAt
 rcases Nat.lt_or_ge i l.length with hl | hl
 ·have := h l[i] (List.getElem_mem hl)
  simp only [List.getD, List.getElem?_eq_getElem hl, Option.getD_some]
  omega
 ·simp [List.getD, List.getElem?_eq_none hl]
theorem Small9.put {l : List Lf} {n v : Bs} (h : Small9 l) (hn : (n.length : Int) ≤ 9) (hv : (v.length : Int) ≤ 9) : Small9 (putL l n v) := by
 intro x hx
 simp only [putL, lowL, z3T, z0P, List.mem_append, List.mem_filter, List.mem_singleton] at hx
 rcases hx with (hx | hx) | hx
 ·exact h x hx.1.1
 ·subst hx; exact ⟨hn, hv⟩
 ·exact h x hx.1.1
inductive DR (c : Bs) : Nat → List Lf → Nat → Int → List Lf → Nat → Int → Prop
 | stop {k l i h x i' h'} : i' ≤ c.length → x ≤ k → CT Tryz.prog 71 [curE c i h] [.ptr 1 0 0, .int .i64 9] (.int .i64 ((x : Nat) : Int)) [curE c i' h'] → DR c k l i h l i' h'
 | step {k l i h x i1 h1 s i2 h2 v i3 h3 l' i' h'} : x < 9 → k < x → i1 ≤ c.length → CT Tryz.prog 71 [curE c i h] [.ptr 1 0 0, .int .i64 9] (.int .i64 ((x : Nat) : Int)) [curE c i1 h1] →
    (z0C s = true ∧ s.length ≤ 9) → i2 ≤ c.length → CT Tryz.prog 33 [curE c i1 h1] [.ptr 1 0 0] (.str s) [curE c i2 h2] →
    (z0O v = true ∧ v.length ≤ 9) → i3 ≤ c.length → CT Tryz.prog 154 [curE c i2 h2] [.ptr 1 0 0] (.str v) [curE c i3 h3] →
    DR c (k + 1) (putR l s v).1 i3 h3 l' i' h' → DR c k l i h l' i' h'
set_option maxRecDepth 100000 in
set_option maxHeartbeats 1000000 in
theorem zcl (c : Bs) (hc : (c.length : Int) ≤ 1048576) : ∃ (s : Bs), (z0C s = true ∧ s.length ≤ 9) ∧ CT Tryz.prog 7 [] [.sl 1 (z0k c)] (.str s) [] := by
 obtain ⟨h, c1⟩ := z7F c hc
 obtain ⟨s, i', h', hl, _, c2⟩ := z4i c 0 h hc (by omega)
 refine ⟨s, hl, z01 z0v 1 rfl Tryz.func7 rfl rfl rfl ?_⟩
 repeat ((try conv => whnf); first | (refine ccA ([]) (c1) ?_) | (refine ccB ([_]) (c2) ?_) | (refine stpQ ?_))
 (refine z00 (by rfl) ?_ ?_ (by rfl)) <;> (repeat' (first | (exact eqA) | (refine shE ?_) | (refine And.intro ?_ ?_))) <;> first | rfl | decide
end Go.Proofs.YtfjbinbpgdiafaaGreatDoor
namespace Go.Proofs.YtfjbinbpgdiafaaGreatDoor
set_option maxRecDepth 100000
set_option maxHeartbeats 1000000
set_option linter.unusedVariables false
set_option linter.unusedSimpArgs false
set_option linter.unusedSectionVars false
open Go.RowKit Pl
attribute [local irreducible] z0r z0s z0z AnsP LeP
theorem w_muln {a n : Nat} {K : Int → Prop} (h : a * OfNat.ofNat n ≤ 9223372036854775807) (hk : K ((a * OfNat.ofNat n : Nat) : Int)) : ∃ r, r = IntKind.i64.wrap ((a : Int) * (OfNat.ofNat n : Int)) ∧ K r :=
 w_mul (b := OfNat.ofNat n) h hk
theorem z24 (c : Bs) (i : Nat) (h : Int) (n : Nat) (hc : (c.length : Int) ≤ 1048576) (hi : i ≤ c.length) (hn : 0 < n) : ∃ (x i' : Nat) (h' : Int), x < n ∧ i' ≤ c.length ∧ CT Tryz.prog 71 [curE c i h] [.ptr 1 0 0, .int .i64 (n : Int)] (.int .i64 (x : Int)) [curE c i' h'] := by
 by_cases h256 : n ≤ 256
 ·exact z2a c i h n hc hi ⟨hn, h256⟩
 ·obtain ⟨x, i1, h1, hx, hi1, k1⟩ := z2F c i h hc hi
  obtain ⟨y, i2, h2, hy, hi2, k2⟩ := z2F c i1 h1 hc hi1
  obtain ⟨z, i3, h3, hz, hi3, k3⟩ := z2F c i2 h2 hc hi2
  obtain ⟨v, i4, h4, hv, hi4, k4⟩ := z2F c i3 h3 hc hi3
  refine ⟨(x * 16777216 + y * 65536 + z * 256 + v) % n, i4, h4, Nat.mod_lt _ hn, hi4, z01 z0v 2 rfl Tryz.func71 rfl rfl rfl ?_⟩
  repeat ((try conv => whnf); first | (refine ccB ([1]) (k1) ?_) | (refine ccB ([1]) (k2) ?_) | (refine ccB ([1]) (k3) ?_) | (refine ccB ([1]) (k4) ?_) | (refine w_muln (by omega) ?_) | (refine r_rem ?_) | (refine stpQ ?_))
  (refine z00 (by rfl) ?_ ?_ (by rfl)) <;> repeat' (first | (exact eqA) | (refine shE ?_) | (refine And.intro ?_ ?_))
theorem zg7 (c : Bs) (i : Nat) (h : Int) (n : Nat) (hc : (c.length : Int) ≤ 1048576) (hi : i ≤ c.length) (hn : 0 < n) : ∃ (x : Bool) (i' : Nat) (h' : Int), i' ≤ c.length ∧ CT Tryz.prog 56 [curE c i h] [.ptr 1 0 0, .int .i64 (n : Int)] (.bool x) [curE c i' h'] := by
 obtain ⟨x, i', h', hx, hi', k⟩ := z24 c i h n hc hi hn
 refine ⟨decide ((x : Int) = 0), i', h', hi', z01 z0v 2 rfl Tryz.func56 rfl rfl rfl ?_⟩
 repeat ((try conv => whnf); first | (refine ccB ([1]) (k) ?_) | (refine stpQ ?_))
 (refine z00 (by rfl) ?_ ?_ (by rfl)) <;> repeat' (first | (exact eqA) | (refine shE ?_) | (refine And.intro ?_ ?_))
def intE (l : List Int) : List (List T) := l.map fun s => [.int .i64 s]
theorem zfo (l : List Int) : (intE l).length = l.length := by simp [intE]
theorem zh6 {l : List Int} {i : Nat} (h : i < l.length) : (intE l)[i]? = some [.int .i64 (l.getD i 0)] := by simp [intE, List.getD, List.getElem?_eq_getElem h]
theorem z92 (c : Bs) (i : Nat) (h : Int) (l : List Int) (hc : (c.length : Int) ≤ 1048576) (hi : i ≤ c.length) (hl : 0 < l.length ∧ l.length ≤ 256) : ∃ (s : Int) (i' : Nat) (h' : Int), s ∈ l ∧ i' ≤ c.length ∧ CT Tryz.prog 46 [curE c i h] [.ptr 1 0 0, .sl 1 (intE l)] (.int .i64 s) [curE c i' h'] := by
 obtain ⟨x, i', h', hx, hi', k⟩ := z2a c i h l.length hc hi hl
 have hlen := zfo l
 refine ⟨l.getD x 0, i', h', ?_, hi', z01 z0v 2 rfl Tryz.func46 rfl rfl rfl ?_⟩
 ·simp [List.getD, List.getElem?_eq_getElem hx]
 ·repeat ((try conv => whnf); first | (refine Exists.intro l.length (And.intro hlen ?_)) | (refine ccB ([1]) (k) ?_) | (refine i_at (zh6 hx) ?_) | (refine stpQ ?_))
  (refine z00 (by rfl) ?_ ?_ (by rfl)) <;> repeat' (first | (exact eqA) | (refine shE ?_) | (refine And.intro ?_ ?_))
inductive TR (c : Bs) : Nat → Nat → Int → Bs → Bs → Nat → Int → Prop
 | stop {i h out} : TR c 0 i h out out i h
 | step {n i h out x i1 h1 out' i' h'} : x ≤ 255 → i1 ≤ c.length → CT Tryz.prog 128 [curE c i h] [.ptr 1 0 0] (.int .i64 ((x : Nat) : Int)) [curE c i1 h1] → TR c n i1 h1 (out ++ [UInt8.ofNat x]) out' i' h' → TR c (n + 1) i h out out' i' h'
theorem zg8 (c : Bs) (hc : (c.length : Int) ≤ 1048576) : ∀ (n i : Nat) (h : Int) (out : Bs), i ≤ c.length → ∃ out' i' h', TR c n i h out out' i' h' ∧ out'.length = out.length + n ∧ i' ≤ c.length
 | 0, i, h, out, hi => ⟨out, i, h, .stop, rfl, hi⟩
 | n + 1, i, h, out, hi => by
   obtain ⟨x, i1, h1, hx, hi1, k1⟩ := z2F c i h hc hi
   obtain ⟨out', i', h', ht, hl, hi'⟩ := zg8 c hc n i1 h1 (out ++ [UInt8.ofNat x]) hi1
   exact ⟨out', i', h', .step hx hi1 k1 ht, by rw [hl]; simp; omega, hi'⟩
theorem c_text (c : Bs) (i : Nat) (h : Int) (n : Nat) (hc : (c.length : Int) ≤ 1048576) (hi : i ≤ c.length) (hn : n ≤ 5000) : ∃ (s : Bs) (i' : Nat) (h' : Int), s.length = n ∧ i' ≤ c.length ∧ CT Tryz.prog 134 [curE c i h] [.ptr 1 0 0, .int .i64 (n : Int)] (.str s) [curE c i' h'] := by
 obtain ⟨s, i', h', ht, hl, hi'⟩ := zg8 c hc n i h [] hi
 refine ⟨s, i', h', by simpa using hl, hi', z01 z0v 2 rfl Tryz.func134 rfl rfl rfl ?_⟩
 repeat ((try conv => whnf); first | (refine stpQ ?_))
 refine z0K (Nat × Nat × Int × Bs) (fun ⟨k, i, h, out⟩ => ⟨[(0, .ptr 1 0 0), (1, .int .i64 (n : Int)), (5, .ref 2), (6, .int .i64 (k : Int))], [(1, some (curE c i h)), (2, some (.row 1 (z0k out)))], 3⟩) (fun ⟨k, i, h, out⟩ => TR c (n - k) i h out s i' h' ∧ k ≤ n ∧ out.length = k) (fun ⟨k, i, h, out⟩ => n - k) (0, i, h, []) ⟨ht, by omega, rfl⟩ ?_ ?_
 ·(refine z02 (by rfl) ?_ ?_) <;> (repeat' (first | (exact eqA) | (refine shE ?_) | (refine And.intro ?_ ?_))) <;> first | rfl | decide
 ·rintro ⟨k, i, h, out⟩ ⟨hd, hk, hlo⟩
  have hbl := z0G out
  by_cases hlt : k < n
  ·obtain ⟨m, hm⟩ : ∃ m, n - k = m + 1 := ⟨n - k - 1, by omega⟩
   rw [hm] at hd
   cases hd with
   | @step _ _ _ _ x i1 h1 _ _ _ hx hi1 k1 hd' =>
     repeat ((try conv => whnf); first | (refine ccB ([1]) (k1) ?_) | (refine w_u8 ?_) | (refine And.intro (by simp [z0G]; omega) ?_) | (refine stpQ ?_))
     refine ⟨(k + 1, i1, h1, out ++ [UInt8.ofNat x]), ⟨by rw [show n - (k + 1) = m by omega]; exact hd', by omega, by simp; omega⟩, (by show n - (k + 1) < n - k; omega), ?_⟩
     (refine z02 (by rfl) ?_ ?_) <;> (repeat' (first | (exact eqA) | (refine shE ?_) | (refine And.intro ?_ ?_)))
     simp [z0k, z3H]
  ·have hz : n - k = 0 := by omega
   rw [hz] at hd
   cases hd with
   | stop =>
     repeat ((try conv => whnf); first | (refine Exists.intro s (And.intro rfl ?_)) | (refine stpQ ?_))
     (refine z00 (by rfl) ?_ ?_ (by rfl)) <;> (repeat' (first | (exact eqA) | (refine shE ?_) | (refine And.intro ?_ ?_)))
end Go.Proofs.YtfjbinbpgdiafaaGreatDoor
