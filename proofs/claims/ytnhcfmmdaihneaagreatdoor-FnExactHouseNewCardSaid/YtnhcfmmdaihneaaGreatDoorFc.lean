/- Functions by content: an entry is looked up, put, dropped. Functions by content: an entry is dropped; one is put, by the reference; lists are compared. Functions by content: lists and names drawn. Functions by content: more of what is drawn: any bound, texts, spoilt texts. -/
import Derived.Test.YtnhcfmmdaihneaaGreatDoorFa
import Derived.Test.YtnhcfmmdaihneaaGreatDoorPlainM
import Derived.Test.YtnhcfmmdaihneaaGreatDoorFb
namespace Go.Proofs.YtnhcfmmdaihneaaGreatDoor
set_option maxRecDepth 100000
set_option maxHeartbeats 1000000
set_option linter.unusedVariables false
set_option linter.unusedSimpArgs false
set_option linter.unusedSectionVars false
open Go.RowKit Pl
attribute [local irreducible] z0w z0x z0A AnsP LeP
theorem z2m (l : List Lf) (hl : (l.length : Int) ≤ 1000000000) : CT Tryz.prog 295 [] [.sl 2 (lvE l)] (.ref 1) [.row 2 (lvE l)] := by
 have hlen := z1n l
 refine z01 z0L 1 rfl Tryz.func295 rfl rfl rfl ?_
 repeat ((try conv => whnf); first | (refine stpQ ?_))
 (refine z00 (by rfl) ?_ ?_ (by rfl)) <;> repeat' (first | (exact eqA) | (refine shE ?_) | (refine And.intro ?_ ?_))
theorem zgo (l : List Lf) (nm : Bs) (hl : (l.length : Int) ≤ 1000000000) : CT Tryz.prog 330 [] [.sl 2 (lvE l), .str nm] (.tup [.str ((z1r l nm).getD []), .bool (z1r l nm).isSome]) [] := by
 have hlen := z1n l
 refine z01 z0L 1 rfl Tryz.func330 rfl rfl rfl ?_
 repeat ((try conv => whnf); first | (refine stpQ ?_))
 refine z0H Nat (fun k => ⟨[(1, .str nm), (8, .sl 2 (lvE l)), (9, .int .i64 ((lvE l).length : Int)), (10, .int .i64 (k : Int))], [], 2⟩) (fun k => k ≤ l.length ∧ z1r (l.take k) nm = none) (fun k => l.length - k) 0 ⟨by omega, rfl⟩ ?_ ?_
 ·(refine z02 (by rfl) ?_ ?_) <;> repeat' (first | (exact eqA) | (refine shE ?_) | (refine And.intro ?_ ?_))
 ·rintro k ⟨hk, hp⟩
  repeat ((try conv => whnf); first | (refine stpQ ?_))
  ((try conv => whnf); first | (refine cb_d (fun h => ?_) (fun h => ?_)) | (refine cb_n (fun h => ?_) (fun h => ?_)) | (refine cb (fun h => ?_) (fun h => ?_)))
  ·have hlt : k < l.length := by omega
   repeat ((try conv => whnf); first | (refine i_at (z2I hlt) ?_) | (refine stpQ ?_))
   ((try conv => whnf); first | (refine cb_d (fun h => ?_) (fun h => ?_)) | (refine cb_n (fun h => ?_) (fun h => ?_)) | (refine cb (fun h => ?_) (fun h => ?_)))
   ·have hg := zdn hlt hp h
    repeat ((try conv => whnf); first | (refine stpQ ?_))
    rw [hg]
    (refine z00 (by rfl) ?_ ?_ (by rfl)) <;> (repeat' (first | (exact eqA) | (refine shE ?_) | (refine And.intro ?_ ?_))) <;> rfl
   ·have hg := zdm hlt hp h
    repeat ((try conv => whnf); first | (refine stpQ ?_))
    refine ⟨k + 1, ⟨by omega, hg⟩, by omega, ?_⟩
    (refine z02 (by rfl) ?_ ?_) <;> repeat' (first | (exact eqA) | (refine shE ?_) | (refine And.intro ?_ ?_))
  ·obtain rfl : k = l.length := by omega
   rw [List.take_length] at hp
   repeat ((try conv => whnf); first | (refine stpQ ?_))
   rw [hp]
   (refine z00 (by rfl) ?_ ?_ (by rfl)) <;> (repeat' (first | (exact eqA) | (refine shE ?_) | (refine And.intro ?_ ?_))) <;> rfl
theorem zap (l : List Lf) (nm : Bs) (hl : (l.length : Int) ≤ 100000000) : CT Tryz.prog 329 [] [.sl 2 (lvE l), .str nm] (.ref 1) [.row 2 (lvE (z0X l nm))] := by
 have hlen := z1n l
 refine z01 z0L 1 rfl Tryz.func329 rfl rfl rfl ?_
 repeat ((try conv => whnf); first | (refine stpQ ?_))
 refine z0H Nat (fun k => ⟨[(0, .sl 2 (lvE l)), (1, .str nm), (5, .ref 1), (6, .int .i64 (k : Int))], [(1, some (.row 2 (lvE (z0X (l.take k) nm))))], 2⟩) (fun k => k ≤ l.length) (fun k => l.length - k) 0 (by omega) ?_ ?_
 ·(refine z02 (by rfl) ?_ ?_) <;> (repeat' (first | (exact eqA) | (refine shE ?_) | (refine And.intro ?_ ?_))) <;> first | rfl | decide
 ·intro k hk
  repeat ((try conv => whnf); first | (refine stpQ ?_))
  ((try conv => whnf); first | (refine cb_d (fun h => ?_) (fun h => ?_)) | (refine cb_n (fun h => ?_) (fun h => ?_)) | (refine cb (fun h => ?_) (fun h => ?_)))
  ·have hk2 : k < l.length := by omega
   repeat ((try conv => whnf); first | (refine i_at (z2I hk2) ?_) | (refine stpQ ?_))
   ((try conv => whnf); first | (refine cb_d (fun h => ?_) (fun h => ?_)) | (refine cb_n (fun h => ?_) (fun h => ?_)) | (refine cb (fun h => ?_) (fun h => ?_)))
   ·have hw : (z0X (l.take k) nm).length ≤ k := Nat.le_trans (List.length_filter_le _ _) (by simp; omega)
    repeat ((try conv => whnf); first | (refine i_at (z2I hk2) ?_) | (refine And.intro (by simp [z1n]; omega) ?_) | (refine stpQ ?_))
    refine ⟨k + 1, by omega, by omega, ?_⟩
    (refine z02 (by rfl) ?_ ?_) <;> repeat' (first | (exact eqA) | (refine shE ?_) | (refine And.intro ?_ ?_))
    rw [z3R hk2, if_neg h, z5G]; rfl
   ·repeat ((try conv => whnf); first | (refine stpQ ?_))
    refine ⟨k + 1, by omega, by omega, ?_⟩
    (refine z02 (by rfl) ?_ ?_) <;> repeat' (first | (exact eqA) | (refine shE ?_) | (refine And.intro ?_ ?_))
    rw [z3R hk2, if_pos h, List.append_nil]
  ·obtain rfl : k = l.length := by omega
   repeat ((try conv => whnf); first | (refine stpQ ?_))
   (refine z00 (by rfl) ?_ ?_ (by rfl)) <;> repeat' (first | (exact eqA) | (refine shE ?_) | (refine And.intro ?_ ?_))
   rw [List.take_length]
theorem zgp (l : List Lf) (nm vl : Bs) (hl : (l.length : Int) ≤ 100000000) (hf : Fit l) (hf2 : Fit (insL l nm vl)) : CT Tryz.prog 319 [] [.sl 2 (lvE l), .str nm, .str vl] (.tup [.ref 1, .bool (insR l nm vl).2]) [.row 2 (lvE (insR l nm vl).1)] := by
 have hlen := z1n l
 have hil : (insL l nm vl).length ≤ 2 * l.length + 1 := by
  have := zdo nm vl l l.length
  rw [List.take_length] at this
  unfold insL
  cases (insF l nm vl).2 <;> simp <;> omega
 refine z01 z0L 1 rfl Tryz.func319 rfl rfl rfl ?_
 repeat ((try conv => whnf); first | (refine ccA ([]) (z42 l (by omega) hf) ?_) | (refine stpQ ?_))
 ((try conv => whnf); first | (refine cb_d (fun h => ?_) (fun h => ?_)) | (refine cb_n (fun h => ?_) (fun h => ?_)) | (refine cb (fun h => ?_) (fun h => ?_)))
 ·have ho : z0k l = false := by simpa using h
  have hr : insR l nm vl = (l, false) := by simp [insR, ho]
  rw [hr]
  repeat ((try conv => whnf); first | (refine ccA ([]) (z2m l (by omega)) ?_) | (refine stpQ ?_))
  (refine z00 (by rfl) ?_ ?_ (by rfl)) <;> repeat' (first | (exact eqA) | (refine shE ?_) | (refine And.intro ?_ ?_))
 ·have ho : z0k l = true := by simpa using h
  repeat ((try conv => whnf); first | (refine stpQ ?_))
  refine z0H Nat (fun k => ⟨[(0, .sl 2 (lvE l)), (1, .str nm), (2, .str vl), (8, .ref 1), (9, .bool (insF (l.take k) nm vl).2), (17, .sl 2 (lvE l)), (18, .int .i64 ((lvE l).length : Int)), (19, .int .i64 (k : Int))], [(1, some (.row 2 (lvE (insF (l.take k) nm vl).1)))], 2⟩) (fun k => k ≤ l.length) (fun k => l.length - k) 0 (by omega) ?_ ?_
  ·(refine z02 (by rfl) ?_ ?_) <;> (repeat' (first | (exact eqA) | (refine shE ?_) | (refine And.intro ?_ ?_))) <;> first | rfl | decide
  ·intro k hk
   have hfl := zdo nm vl l k
   repeat ((try conv => whnf); first | (refine stpQ ?_))
   ((try conv => whnf); first | (refine cb_d (fun h => ?_) (fun h => ?_)) | (refine cb_n (fun h => ?_) (fun h => ?_)) | (refine cb (fun h => ?_) (fun h => ?_)))
   ·have hk2 : k < l.length := by omega
    have hnx := zg7 (n := nm) (v := vl) hk2
    generalize insF (l.take k) nm vl = st at hnx hfl ⊢
    obtain ⟨o, d⟩ := st
    simp only at hfl
    have hol := z1n o
    repeat' (first | ((try conv => whnf); first | (refine i_at (z2I hk2) ?_) | (refine And.intro (by simp [z1n]; omega) ?_) | (refine stpQ ?_)) | ((try conv => whnf); first | (refine cb_d (fun h => ?_) (fun h => ?_)) | (refine cb_n (fun h => ?_) (fun h => ?_)) | (refine cb (fun h => ?_) (fun h => ?_))))
    all_goals
     refine ⟨k + 1, by omega, by omega, ?_⟩
     rw [hnx]
     (refine z02 (by rfl) ?_ ?_) <;> repeat' (first | (exact eqA) | (refine shE ?_) | (refine And.intro ?_ ?_))
    all_goals first
     | (simp_all [insS, ltB, lvE]; done)
   ·obtain rfl : k = l.length := by omega
    rw [List.take_length] at hfl ⊢
    generalize hst : insF l nm vl = st at hfl ⊢
    obtain ⟨o, d⟩ := st
    simp only at hfl
    have hol := z1n o
    have hil2 : insL l nm vl = bif d then o else o ++ [(nm, vl)] := by rw [insL, hst]
    cases d
    ·have e1 : lvE o ++ [[.str nm, .str vl]] = lvE (insL l nm vl) := by rw [hil2]; simp [lvE]
     have hR : insR l nm vl = bif z0k (insL l nm vl) then (insL l nm vl, true) else (l, false) := by rw [insR, ho]; rfl
     repeat ((try conv => whnf); first | (refine And.intro (by simp [z1n]; omega) ?_) | (refine stpQ ?_))
     ((try conv => whnf); refine z0N ([]) (z42 (insL l nm vl) (by omega) hf2) ?_ (by ((repeat' (first | (exact trivial) | (exact rfl) | (refine And.intro ?_ ?_))); first | done | fail)) (by decide) (by rfl) (by first | exact .inl rfl | (refine .inr ⟨?_, ?_⟩ <;> simp [own2, own1, own0, ownE])) ?_)
     ·exact ⟨⟨congrArg (fun e => some (Ent.row 2 e)) e1, rfl⟩, rfl⟩
     ·repeat ((try conv => whnf); first | (refine stpQ ?_))
      ((try conv => whnf); first | (refine cb_d (fun h => ?_) (fun h => ?_)) | (refine cb_n (fun h => ?_) (fun h => ?_)) | (refine cb (fun h => ?_) (fun h => ?_)))
      ·have ho2 : z0k (insL l nm vl) = false := by simpa using h
       rw [hR, ho2, cond_false]
       repeat ((try conv => whnf); first | (refine ccA ([]) (z2m l (by omega)) ?_) | (refine stpQ ?_))
       (refine z00 (by rfl) ?_ ?_ (by rfl)) <;> repeat' (first | (exact eqA) | (refine shE ?_) | (refine And.intro ?_ ?_))
      ·have ho2 : z0k (insL l nm vl) = true := by simpa using h
       rw [hR, ho2, cond_true]
       repeat ((try conv => whnf); first | (refine stpQ ?_))
       (refine z00 (by rfl) ?_ ?_ (by rfl)) <;> repeat' (first | (exact eqA) | (refine shE ?_) | (refine And.intro ?_ ?_))
       exact e1
    ·have e1 : lvE o = lvE (insL l nm vl) := by rw [hil2]; rfl
     have hR : insR l nm vl = bif z0k (insL l nm vl) then (insL l nm vl, true) else (l, false) := by rw [insR, ho]; rfl
     repeat ((try conv => whnf); first | (refine stpQ ?_))
     ((try conv => whnf); refine z0N ([]) (z42 (insL l nm vl) (by omega) hf2) ?_ (by ((repeat' (first | (exact trivial) | (exact rfl) | (refine And.intro ?_ ?_))); first | done | fail)) (by decide) (by rfl) (by first | exact .inl rfl | (refine .inr ⟨?_, ?_⟩ <;> simp [own2, own1, own0, ownE])) ?_)
     ·exact ⟨⟨congrArg (fun e => some (Ent.row 2 e)) e1, rfl⟩, rfl⟩
     ·repeat ((try conv => whnf); first | (refine stpQ ?_))
      ((try conv => whnf); first | (refine cb_d (fun h => ?_) (fun h => ?_)) | (refine cb_n (fun h => ?_) (fun h => ?_)) | (refine cb (fun h => ?_) (fun h => ?_)))
      ·have ho2 : z0k (insL l nm vl) = false := by simpa using h
       rw [hR, ho2, cond_false]
       repeat ((try conv => whnf); first | (refine ccA ([]) (z2m l (by omega)) ?_) | (refine stpQ ?_))
       (refine z00 (by rfl) ?_ ?_ (by rfl)) <;> repeat' (first | (exact eqA) | (refine shE ?_) | (refine And.intro ?_ ?_))
      ·have ho2 : z0k (insL l nm vl) = true := by simpa using h
       rw [hR, ho2, cond_true]
       repeat ((try conv => whnf); first | (refine stpQ ?_))
       (refine z00 (by rfl) ?_ ?_ (by rfl)) <;> repeat' (first | (exact eqA) | (refine shE ?_) | (refine And.intro ?_ ?_))
       exact e1
end Go.Proofs.YtnhcfmmdaihneaaGreatDoor
namespace Go.Proofs.YtnhcfmmdaihneaaGreatDoor
set_option maxRecDepth 100000
set_option maxHeartbeats 1000000
set_option linter.unusedVariables false
set_option linter.unusedSimpArgs false
set_option linter.unusedSectionVars false
open Go.RowKit Pl
attribute [local irreducible] z0w z0x z0A AnsP LeP
theorem zeA (l : List Lf) (nm : Bs) (hl : (l.length : Int) ≤ 100000000) (hf : Fit l) : CT Tryz.prog 318 [] [.sl 2 (lvE l), .str nm] (.tup [.ref 1, .bool (z4z l nm).2]) [.row 2 (lvE (z4z l nm).1)] := by
 have hlen := z1n l
 refine z01 z0L 1 rfl Tryz.func318 rfl rfl rfl ?_
 repeat' (first | ((try conv => whnf); first | (refine ccA ([]) (zgo l nm (by omega)) ?_) | (refine ccA ([]) (z42 l (by omega) hf) ?_) | (refine ccA ([]) (z2m l (by omega)) ?_) | (refine stpQ ?_)) | ((try conv => whnf); first | (refine cb_d (fun h => ?_) (fun h => ?_)) | (refine cb_n (fun h => ?_) (fun h => ?_)) | (refine cb (fun h => ?_) (fun h => ?_))))
 ·have e : z4z l nm = (l, false) := by simp at h; simp [z4z, h]
  rw [e]
  (refine z00 (by rfl) ?_ ?_ (by rfl)) <;> repeat' (first | (exact eqA) | (refine shE ?_) | (refine And.intro ?_ ?_))
 ·have e : z4z l nm = (l, false) := by simp at h; simp [z4z, h]
  rw [e]
  (refine z00 (by rfl) ?_ ?_ (by rfl)) <;> repeat' (first | (exact eqA) | (refine shE ?_) | (refine And.intro ?_ ?_))
 ·rename_i h0
  have e : z4z l nm = (z0X l nm, true) := by simp at h h0; simp [z4z, h, h0]
  rw [e]
  refine z0H Nat (fun k => ⟨[(1, .str nm), (8, .ref 1), (26, .sl 2 (lvE l)), (27, .int .i64 ((lvE l).length : Int)), (28, .int .i64 (k : Int))], [(1, some (.row 2 (lvE (z0X (l.take k) nm))))], 2⟩) (fun k => k ≤ l.length) (fun k => l.length - k) 0 (by omega) ?_ ?_
  ·(refine z02 (by rfl) ?_ ?_) <;> (repeat' (first | (exact eqA) | (refine shE ?_) | (refine And.intro ?_ ?_))) <;> first | rfl | decide
  ·intro k hk
   have hw : (z0X (l.take k) nm).length ≤ k := Nat.le_trans (List.length_filter_le _ _) (by simp; omega)
   repeat ((try conv => whnf); first | (refine stpQ ?_))
   ((try conv => whnf); first | (refine cb_d (fun h => ?_) (fun h => ?_)) | (refine cb_n (fun h => ?_) (fun h => ?_)) | (refine cb (fun h => ?_) (fun h => ?_)))
   ·have hk2 : k < l.length := by omega
    have hnx := z3R (n := nm) hk2
    repeat ((try conv => whnf); first | (refine i_at (z2I hk2) ?_) | (refine stpQ ?_))
    ((try conv => whnf); first | (refine cb_d (fun h => ?_) (fun h => ?_)) | (refine cb_n (fun h => ?_) (fun h => ?_)) | (refine cb (fun h => ?_) (fun h => ?_)))
    ·repeat ((try conv => whnf); first | (refine And.intro (by simp [z1n]; omega) ?_) | (refine stpQ ?_))
     refine ⟨k + 1, by omega, by omega, ?_⟩
     (refine z02 (by rfl) ?_ ?_) <;> (repeat' (first | (exact eqA) | (refine shE ?_) | (refine And.intro ?_ ?_)))
     rw [hnx, if_neg ‹_›, z5G]; rfl
    ·repeat ((try conv => whnf); first | (refine stpQ ?_))
     refine ⟨k + 1, by omega, by omega, ?_⟩
     (refine z02 (by rfl) ?_ ?_) <;> (repeat' (first | (exact eqA) | (refine shE ?_) | (refine And.intro ?_ ?_)))
     rw [hnx, if_pos ‹_›, List.append_nil]
   ·obtain rfl : k = l.length := by omega
    rw [List.take_length]
    repeat ((try conv => whnf); first | (refine stpQ ?_))
    (refine z00 (by rfl) ?_ ?_ (by rfl)) <;> repeat' (first | (exact eqA) | (refine shE ?_) | (refine And.intro ?_ ?_))
theorem zeB (l : List Lf) (nm vl : Bs) (hl : (l.length : Int) ≤ 10000000) (hf : Fit l) (hf2 : Fit (putL l nm vl)) : CT Tryz.prog 317 [] [.sl 2 (lvE l), .str nm, .str vl] (.tup [.ref 1, .bool (putR l nm vl).2]) [.row 2 (lvE (putR l nm vl).1)] := by
 have hlen := z1n l
 refine z01 z0L 1 rfl Tryz.func317 rfl rfl rfl ?_
 repeat ((try conv => whnf); first | (refine ccA ([]) (zap l nm (by omega)) ?_) | (refine stpQ ?_))
 generalize hr : z0X l nm = r
 have hrl : r.length ≤ l.length := by rw [← hr]; exact List.length_filter_le _ _
 have hlr := z1n r
 refine z0H Nat (fun k => ⟨[(0, .sl 2 (lvE l)), (1, .str nm), (2, .str vl), (8, .ref 1), (9, .ref 2), (10, .int .i64 (k : Int))], [(1, some (.row 2 (lvE (lowL (r.take k) nm)))), (2, some (.row 2 (lvE r)))], 3⟩) (fun k => k ≤ r.length) (fun k => r.length - k) 0 (by omega) ?_ ?_
 ·(refine z02 (by rfl) ?_ ?_) <;> (repeat' (first | (exact eqA) | (refine shE ?_) | (refine And.intro ?_ ?_))) <;> first | rfl | decide
 ·intro k hk
  have hw : (lowL (r.take k) nm).length ≤ k := Nat.le_trans (List.length_filter_le _ _) (by simp; omega)
  repeat ((try conv => whnf); first | (refine stpQ ?_))
  ((try conv => whnf); first | (refine cb_d (fun h => ?_) (fun h => ?_)) | (refine cb_n (fun h => ?_) (fun h => ?_)) | (refine cb (fun h => ?_) (fun h => ?_)))
  ·have hk2 : k < r.length := by omega
   have hnx := zg8 (n := nm) hk2
   repeat ((try conv => whnf); first | (refine Exists.intro _ (And.intro (z2I hk2) ?_)) | (refine stpQ ?_))
   ((try conv => whnf); first | (refine cb_d (fun h => ?_) (fun h => ?_)) | (refine cb_n (fun h => ?_) (fun h => ?_)) | (refine cb (fun h => ?_) (fun h => ?_)))
   ·repeat ((try conv => whnf); first | (refine Exists.intro _ (And.intro (z2I hk2) ?_)) | (refine And.intro (by simp [z1n]; omega) ?_) | (refine stpQ ?_))
    refine ⟨k + 1, by omega, by omega, ?_⟩
    (refine z02 (by rfl) ?_ ?_) <;> (repeat' (first | (exact eqA) | (refine shE ?_) | (refine And.intro ?_ ?_)))
    rw [hnx, if_pos (show ltB (lfAt r k).1 nm = true from h), z5G]; rfl
   ·repeat ((try conv => whnf); first | (refine stpQ ?_))
    refine ⟨k + 1, by omega, by omega, ?_⟩
    (refine z02 (by rfl) ?_ ?_) <;> (repeat' (first | (exact eqA) | (refine shE ?_) | (refine And.intro ?_ ?_)))
    rw [hnx, if_neg (by rw [ltB, h]; decide), List.append_nil]
  ·obtain rfl : k = r.length := by omega
   rw [List.take_length] at hw ⊢
   repeat ((try conv => whnf); first | (refine And.intro (by simp [z1n]; omega) ?_) | (refine stpQ ?_))
   refine z0H Nat (fun k => ⟨[(0, .sl 2 (lvE l)), (1, .str nm), (2, .str vl), (8, .ref 1), (9, .ref 2), (11, .int .i64 (k : Int))], [(1, some (.row 2 (lvE (lowL r nm ++ [(nm, vl)] ++ z4y (r.take k) nm)))), (2, some (.row 2 (lvE r)))], 3⟩) (fun k => k ≤ r.length) (fun k => r.length - k) 0 (by omega) ?_ ?_
   ·(refine z02 (by rfl) ?_ ?_) <;> (repeat' (first | (exact eqA) | (refine shE ?_) | (refine And.intro ?_ ?_))) <;> first | decide | (simp [lvE, z4y]; done)
   ·intro k hk
    have hw2 : (z4y (r.take k) nm).length ≤ k := Nat.le_trans (List.length_filter_le _ _) (by simp; omega)
    have hlo := z1n (lowL r nm ++ [(nm, vl)] ++ z4y (r.take k) nm)
    simp only [List.length_append, List.length_singleton] at hlo
    repeat ((try conv => whnf); first | (refine stpQ ?_))
    ((try conv => whnf); first | (refine cb_d (fun h => ?_) (fun h => ?_)) | (refine cb_n (fun h => ?_) (fun h => ?_)) | (refine cb (fun h => ?_) (fun h => ?_)))
    ·have hk2 : k < r.length := by omega
     have hnx := zeu (n := nm) hk2
     repeat ((try conv => whnf); first | (refine Exists.intro _ (And.intro (z2I hk2) ?_)) | (refine stpQ ?_))
     ((try conv => whnf); first | (refine cb_d (fun h => ?_) (fun h => ?_)) | (refine cb_n (fun h => ?_) (fun h => ?_)) | (refine cb (fun h => ?_) (fun h => ?_)))
     ·repeat ((try conv => whnf); first | (refine Exists.intro _ (And.intro (z2I hk2) ?_)) | (refine And.intro (by simp [z1n]; omega) ?_) | (refine stpQ ?_))
      refine ⟨k + 1, by omega, by omega, ?_⟩
      (refine z02 (by rfl) ?_ ?_) <;> (repeat' (first | (exact eqA) | (refine shE ?_) | (refine And.intro ?_ ?_)))
      rw [hnx, if_pos (show (!(ltB (lfAt r k).1 nm || decide ((lfAt r k).1 = nm))) = true from h)]
      simp [lvE]
     ·repeat ((try conv => whnf); first | (refine stpQ ?_))
      refine ⟨k + 1, by omega, by omega, ?_⟩
      (refine z02 (by rfl) ?_ ?_) <;> (repeat' (first | (exact eqA) | (refine shE ?_) | (refine And.intro ?_ ?_)))
      rw [hnx, if_neg (show ¬ (!(ltB (lfAt r k).1 nm || decide ((lfAt r k).1 = nm))) = true from fun c => by rw [ltB, h] at c; cases c), List.append_nil]
    ·obtain rfl : k = r.length := by omega
     rw [List.take_length] at hw2 hlo ⊢
     have hP : lowL r nm ++ [(nm, vl)] ++ z4y r nm = putL l nm vl := by rw [putL, hr]
     rw [hP] at hlo ⊢
     have hpl := z1n (putL l nm vl)
     repeat ((try conv => whnf); first | (refine ccA ([]) (z4A l (by omega) hf) ?_) | (refine stpQ ?_))
     ((try conv => whnf); first | (refine cb_d (fun h => ?_) (fun h => ?_)) | (refine cb_n (fun h => ?_) (fun h => ?_)) | (refine cb (fun h => ?_) (fun h => ?_)))
     ·have e : putR l nm vl = (l, false) := by simp at h; simp [putR, h]
      rw [e]
      repeat ((try conv => whnf); first | (refine And.intro (by simp [z1n]; omega) ?_) | (refine stpQ ?_))
      (refine z00 (by rfl) ?_ ?_ (by rfl)) <;> repeat' (first | (exact eqA) | (refine shE ?_) | (refine And.intro ?_ ?_))
      rfl
     ·repeat ((try conv => whnf); first | (refine ccA ([]) (z4A (putL l nm vl) (by omega) hf2) ?_) | (refine stpQ ?_))
      ((try conv => whnf); first | (refine cb_d (fun h => ?_) (fun h => ?_)) | (refine cb_n (fun h => ?_) (fun h => ?_)) | (refine cb (fun h => ?_) (fun h => ?_)))
      ·have e : putR l nm vl = (l, false) := by simp at h; simp [putR, h]
       rw [e]
       repeat ((try conv => whnf); first | (refine And.intro (by simp [z1n]; omega) ?_) | (refine stpQ ?_))
       (refine z00 (by rfl) ?_ ?_ (by rfl)) <;> repeat' (first | (exact eqA) | (refine shE ?_) | (refine And.intro ?_ ?_))
       rfl
      ·rename_i h0
       have e : putR l nm vl = (putL l nm vl, true) := by simp at h h0; simp [putR, h, h0]
       rw [e]
       repeat ((try conv => whnf); first | (refine stpQ ?_))
       (refine z00 (by rfl) ?_ ?_ (by rfl)) <;> repeat' (first | (exact eqA) | (refine shE ?_) | (refine And.intro ?_ ?_))
theorem zeC (l : List Lf) (nm : Bs) (hl : (l.length : Int) ≤ 1000000000) : CT Tryz.prog 328 [] [.sl 2 (lvE l), .str nm] (.tup [.str ((z1r l nm).getD []), .bool (z1r l nm).isSome]) [] := by
 have hlen := z1n l
 refine z01 z0L 1 rfl Tryz.func328 rfl rfl rfl ?_
 repeat ((try conv => whnf); first | (refine stpQ ?_))
 refine z0H Nat (fun k => ⟨[(0, .sl 2 (lvE l)), (1, .str nm), (6, .int .i64 (k : Int))], [], 2⟩) (fun k => k ≤ l.length ∧ z1r (l.take k) nm = none) (fun k => l.length - k) 0 ⟨by omega, rfl⟩ ?_ ?_
 ·(refine z02 (by rfl) ?_ ?_) <;> repeat' (first | (exact eqA) | (refine shE ?_) | (refine And.intro ?_ ?_))
 ·rintro k ⟨hk, hp⟩
  by_cases hlt : k < l.length
  ·repeat ((try conv => whnf); first | (refine i_at (z2I hlt) ?_) | (refine stpQ ?_))
   ((try conv => whnf); first | (refine cb_d (fun h => ?_) (fun h => ?_)) | (refine cb_n (fun h => ?_) (fun h => ?_)) | (refine cb (fun h => ?_) (fun h => ?_)))
   ·have hg := zdn hlt hp h
    repeat ((try conv => whnf); first | (refine i_at (z2I hlt) ?_) | (refine stpQ ?_))
    rw [hg]
    (refine z00 (by rfl) ?_ ?_ (by rfl)) <;> (repeat' (first | (exact eqA) | (refine shE ?_) | (refine And.intro ?_ ?_))) <;> rfl
   ·have hg := zdm hlt hp h
    repeat ((try conv => whnf); first | (refine stpQ ?_))
    refine ⟨k + 1, ⟨by omega, hg⟩, by omega, ?_⟩
    (refine z02 (by rfl) ?_ ?_) <;> repeat' (first | (exact eqA) | (refine shE ?_) | (refine And.intro ?_ ?_))
  ·obtain rfl : k = l.length := by omega
   rw [List.take_length] at hp
   repeat ((try conv => whnf); first | (refine stpQ ?_))
   rw [hp]
   (refine z00 (by rfl) ?_ ?_ (by rfl)) <;> (repeat' (first | (exact eqA) | (refine shE ?_) | (refine And.intro ?_ ?_))) <;> rfl
theorem zbS (l : List Lf) (nm : Bs) (hl : (l.length : Int) ≤ 100000000) (hf : Fit l) : CT Tryz.prog 316 [] [.sl 2 (lvE l), .str nm] (.tup [.ref 1, .bool (z4z l nm).2]) [.row 2 (lvE (z4z l nm).1)] := by
 have hlen := z1n l
 have cG := zeC l nm (by omega)
 have cO := z4A l (by omega) hf
 have cW := zap l nm (by omega)
 refine z01 z0L 1 rfl Tryz.func316 rfl rfl rfl ?_
 unfold z4z
 generalize z0k l = b1 at cO ⊢
 generalize z1r l nm = o at cG ⊢
 cases b1 <;> cases o
 all_goals
  repeat ((try conv => whnf); first | (refine ccA ([]) (cG) ?_) | (refine ccA ([]) (cO) ?_) | (refine ccA ([]) (cW) ?_) | (refine And.intro (by simp [z1n]; omega) ?_) | (refine stpQ ?_))
  (refine z00 (by rfl) ?_ ?_ (by rfl)) <;> (repeat' (first | (exact eqA) | (refine shE ?_) | (refine And.intro ?_ ?_))) <;> first | rfl | decide
end Go.Proofs.YtnhcfmmdaihneaaGreatDoor
namespace Go.Proofs.YtnhcfmmdaihneaaGreatDoor
set_option linter.unusedVariables false
set_option linter.unusedSimpArgs false
set_option linter.unusedSectionVars false
open Go.RowKit Pl
attribute [local irreducible] z0w z0x z0A AnsP LeP
def Small9 (l : List Lf) : Prop := ∀ x ∈ l, (x.1.length : Int) ≤ 9 ∧ (x.2.length : Int) ≤ 9
theorem Small9.fit {l : List Lf} (h : Small9 l) : Fit l := fun i => by
 unfold lfAt
 rcases Nat.lt_or_ge i l.length with hl | hl
 ·have := h l[i] (List.getElem_mem hl)
  simp only [List.getD, List.getElem?_eq_getElem hl, Option.getD_some]
  omega
 ·simp [List.getD, List.getElem?_eq_none hl]
theorem Small9.put {l : List Lf} {n v : Bs} (h : Small9 l) (hn : (n.length : Int) ≤ 9) (hv : (v.length : Int) ≤ 9) : Small9 (putL l n v) := by
 intro x hx
 simp only [putL, lowL, z4y, z0X, List.mem_append, List.mem_filter, List.mem_singleton] at hx
 rcases hx with (hx | hx) | hx
 ·exact h x hx.1.1
 ·subst hx; exact ⟨hn, hv⟩
 ·exact h x hx.1.1
end Go.Proofs.YtnhcfmmdaihneaaGreatDoor
namespace Go.Proofs.YtnhcfmmdaihneaaGreatDoor
set_option linter.unusedVariables false
set_option linter.unusedSimpArgs false
set_option linter.unusedSectionVars false
open Go.RowKit Pl
attribute [local irreducible] z0w z0x z0A AnsP LeP
end Go.Proofs.YtnhcfmmdaihneaaGreatDoor
