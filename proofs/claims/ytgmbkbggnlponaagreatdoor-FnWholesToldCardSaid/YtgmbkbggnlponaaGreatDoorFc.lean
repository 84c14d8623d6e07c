/- Functions by content: an entry is looked up, put, dropped. Functions by content: an entry is dropped; one is put, by the reference; lists are compared. Functions by content: lists and names drawn. Functions by content: more of what is drawn: any bound, texts, spoilt texts. -/
import Derived.Test.YtgmbkbggnlponaaGreatDoorFa
import Derived.Test.YtgmbkbggnlponaaGreatDoorPlainM
import Derived.Test.YtgmbkbggnlponaaGreatDoorFb
namespace Go.Proofs.YtgmbkbggnlponaaGreatDoor
set_option maxRecDepth 100000
set_option maxHeartbeats 400000
set_option linter.unusedVariables false
set_option linter.unusedSimpArgs false
set_option linter.unusedSectionVars false
open Go.RowKit Pl
attribute [local irreducible] z0t z0u z0y AnsP LeP
theorem zeX (l : List Lf) (nm : Bs) (hl : (l.length : Int) ≤ 1000000000) : CT Tryz.prog 75 [] [.sl 2 (lvE l), .str nm] (.tup [.str ((z0I l nm).getD []), .bool (z0I l nm).isSome]) [] := by
 have hlen := z0Q l
 refine z01 z0m 1 rfl Tryz.func75 rfl rfl rfl ?_
 repeat ((try conv => whnf); first | (refine stpQ ?_))
 refine z0S Nat (fun k => ⟨[(1, .str nm), (8, .sl 2 (lvE l)), (9, .int .i64 ((lvE l).length : Int)), (10, .int .i64 (k : Int))], [], 2⟩) (fun k => k ≤ l.length ∧ z0I (l.take k) nm = none) (fun k => l.length - k) 0 ⟨by omega, rfl⟩ ?_ ?_
 ·(refine z02 (by rfl) ?_ ?_) <;> repeat' (first | (exact eqA) | (refine shE ?_) | (refine And.intro ?_ ?_))
 ·rintro k ⟨hk, hp⟩
  repeat ((try conv => whnf); first | (refine stpQ ?_))
  ((try conv => whnf); first | (refine cb_d (fun h => ?_) (fun h => ?_)) | (refine cb_n (fun h => ?_) (fun h => ?_)) | (refine cb (fun h => ?_) (fun h => ?_)))
  ·have hlt : k < l.length := by omega
   repeat ((try conv => whnf); first | (refine i_at (z1K hlt) ?_) | (refine stpQ ?_))
   ((try conv => whnf); first | (refine cb_d (fun h => ?_) (fun h => ?_)) | (refine cb_n (fun h => ?_) (fun h => ?_)) | (refine cb (fun h => ?_) (fun h => ?_)))
   ·have hg := zcn hlt hp h
    repeat ((try conv => whnf); first | (refine stpQ ?_))
    rw [hg]
    (refine z00 (by rfl) ?_ ?_ (by rfl)) <;> (repeat' (first | (exact eqA) | (refine shE ?_) | (refine And.intro ?_ ?_))) <;> rfl
   ·have hg := zcm hlt hp h
    repeat ((try conv => whnf); first | (refine stpQ ?_))
    refine ⟨k + 1, ⟨by omega, hg⟩, by omega, ?_⟩
    (refine z02 (by rfl) ?_ ?_) <;> repeat' (first | (exact eqA) | (refine shE ?_) | (refine And.intro ?_ ?_))
  ·obtain rfl : k = l.length := by omega
   rw [List.take_length] at hp
   repeat ((try conv => whnf); first | (refine stpQ ?_))
   rw [hp]
   (refine z00 (by rfl) ?_ ?_ (by rfl)) <;> (repeat' (first | (exact eqA) | (refine shE ?_) | (refine And.intro ?_ ?_))) <;> rfl
theorem zeY (l : List Lf) (nm : Bs) (hl : (l.length : Int) ≤ 100000000) : CT Tryz.prog 121 [] [.sl 2 (lvE l), .str nm] (.ref 1) [.row 2 (lvE (z2z l nm))] := by
 have hlen := z0Q l
 refine z01 z0m 1 rfl Tryz.func121 rfl rfl rfl ?_
 repeat ((try conv => whnf); first | (refine stpQ ?_))
 refine z0S Nat (fun k => ⟨[(0, .sl 2 (lvE l)), (1, .str nm), (5, .ref 1), (6, .int .i64 (k : Int))], [(1, some (.row 2 (lvE (z2z (l.take k) nm))))], 2⟩) (fun k => k ≤ l.length) (fun k => l.length - k) 0 (by omega) ?_ ?_
 ·(refine z02 (by rfl) ?_ ?_) <;> (repeat' (first | (exact eqA) | (refine shE ?_) | (refine And.intro ?_ ?_))) <;> first | rfl | decide
 ·intro k hk
  repeat ((try conv => whnf); first | (refine stpQ ?_))
  ((try conv => whnf); first | (refine cb_d (fun h => ?_) (fun h => ?_)) | (refine cb_n (fun h => ?_) (fun h => ?_)) | (refine cb (fun h => ?_) (fun h => ?_)))
  ·have hk2 : k < l.length := by omega
   repeat ((try conv => whnf); first | (refine i_at (z1K hk2) ?_) | (refine stpQ ?_))
   ((try conv => whnf); first | (refine cb_d (fun h => ?_) (fun h => ?_)) | (refine cb_n (fun h => ?_) (fun h => ?_)) | (refine cb (fun h => ?_) (fun h => ?_)))
   ·have hw : (z2z (l.take k) nm).length ≤ k := Nat.le_trans (List.length_filter_le _ _) (by simp; omega)
    repeat ((try conv => whnf); first | (refine i_at (z1K hk2) ?_) | (refine And.intro (by simp [z0Q]; omega) ?_) | (refine stpQ ?_))
    refine ⟨k + 1, by omega, by omega, ?_⟩
    (refine z02 (by rfl) ?_ ?_) <;> repeat' (first | (exact eqA) | (refine shE ?_) | (refine And.intro ?_ ?_))
    rw [z5D hk2, if_neg h, z5k]; rfl
   ·repeat ((try conv => whnf); first | (refine stpQ ?_))
    refine ⟨k + 1, by omega, by omega, ?_⟩
    (refine z02 (by rfl) ?_ ?_) <;> repeat' (first | (exact eqA) | (refine shE ?_) | (refine And.intro ?_ ?_))
    rw [z5D hk2, if_pos h, List.append_nil]
  ·obtain rfl : k = l.length := by omega
   repeat ((try conv => whnf); first | (refine stpQ ?_))
   (refine z00 (by rfl) ?_ ?_ (by rfl)) <;> repeat' (first | (exact eqA) | (refine shE ?_) | (refine And.intro ?_ ?_))
   rw [List.take_length]
end Go.Proofs.YtgmbkbggnlponaaGreatDoor
namespace Go.Proofs.YtgmbkbggnlponaaGreatDoor
set_option maxRecDepth 100000
set_option maxHeartbeats 1000000
set_option linter.unusedVariables false
set_option linter.unusedSimpArgs false
set_option linter.unusedSectionVars false
open Go.RowKit Pl
attribute [local irreducible] z0t z0u z0y AnsP LeP
theorem z7Y (l : List Lf) (nm vl : Bs) (hl : (l.length : Int) ≤ 10000000) (hf : Fit l) (hf2 : Fit (putL l nm vl)) : CT Tryz.prog 62 [] [.sl 2 (lvE l), .str nm, .str vl] (.tup [.ref 1, .bool (putR l nm vl).2]) [.row 2 (lvE (putR l nm vl).1)] := by
 have hlen := z0Q l
 refine z01 z0m 1 rfl Tryz.func62 rfl rfl rfl ?_
 repeat ((try conv => whnf); first | (refine ccA ([]) (zeY l nm (by omega)) ?_) | (refine stpQ ?_))
 generalize hr : z2z l nm = r
 have hrl : r.length ≤ l.length := by rw [← hr]; exact List.length_filter_le _ _
 have hlr := z0Q r
 refine z0S Nat (fun k => ⟨[(0, .sl 2 (lvE l)), (1, .str nm), (2, .str vl), (8, .ref 1), (9, .ref 2), (10, .int .i64 (k : Int))], [(1, some (.row 2 (lvE (lowL (r.take k) nm)))), (2, some (.row 2 (lvE r)))], 3⟩) (fun k => k ≤ r.length) (fun k => r.length - k) 0 (by omega) ?_ ?_
 ·(refine z02 (by rfl) ?_ ?_) <;> (repeat' (first | (exact eqA) | (refine shE ?_) | (refine And.intro ?_ ?_))) <;> first | rfl | decide
 ·intro k hk
  have hw : (lowL (r.take k) nm).length ≤ k := Nat.le_trans (List.length_filter_le _ _) (by simp; omega)
  repeat ((try conv => whnf); first | (refine stpQ ?_))
  ((try conv => whnf); first | (refine cb_d (fun h => ?_) (fun h => ?_)) | (refine cb_n (fun h => ?_) (fun h => ?_)) | (refine cb (fun h => ?_) (fun h => ?_)))
  ·have hk2 : k < r.length := by omega
   have hnx := zeK (n := nm) hk2
   repeat ((try conv => whnf); first | (refine Exists.intro _ (And.intro (z1K hk2) ?_)) | (refine stpQ ?_))
   ((try conv => whnf); first | (refine cb_d (fun h => ?_) (fun h => ?_)) | (refine cb_n (fun h => ?_) (fun h => ?_)) | (refine cb (fun h => ?_) (fun h => ?_)))
   ·repeat ((try conv => whnf); first | (refine Exists.intro _ (And.intro (z1K hk2) ?_)) | (refine And.intro (by simp [z0Q]; omega) ?_) | (refine stpQ ?_))
    refine ⟨k + 1, by omega, by omega, ?_⟩
    (refine z02 (by rfl) ?_ ?_) <;> (repeat' (first | (exact eqA) | (refine shE ?_) | (refine And.intro ?_ ?_)))
    rw [hnx, if_pos (show ltB (lfAt r k).1 nm = true from h), z5k]; rfl
   ·repeat ((try conv => whnf); first | (refine stpQ ?_))
    refine ⟨k + 1, by omega, by omega, ?_⟩
    (refine z02 (by rfl) ?_ ?_) <;> (repeat' (first | (exact eqA) | (refine shE ?_) | (refine And.intro ?_ ?_)))
    rw [hnx, if_neg (by rw [ltB, h]; decide), List.append_nil]
  ·obtain rfl : k = r.length := by omega
   rw [List.take_length] at hw ⊢
   repeat ((try conv => whnf); first | (refine And.intro (by simp [z0Q]; omega) ?_) | (refine stpQ ?_))
   refine z0S Nat (fun k => ⟨[(0, .sl 2 (lvE l)), (1, .str nm), (2, .str vl), (8, .ref 1), (9, .ref 2), (11, .int .i64 (k : Int))], [(1, some (.row 2 (lvE (lowL r nm ++ [(nm, vl)] ++ z5L (r.take k) nm)))), (2, some (.row 2 (lvE r)))], 3⟩) (fun k => k ≤ r.length) (fun k => r.length - k) 0 (by omega) ?_ ?_
   ·(refine z02 (by rfl) ?_ ?_) <;> (repeat' (first | (exact eqA) | (refine shE ?_) | (refine And.intro ?_ ?_))) <;> first | decide | (simp [lvE, z5L]; done)
   ·intro k hk
    have hw2 : (z5L (r.take k) nm).length ≤ k := Nat.le_trans (List.length_filter_le _ _) (by simp; omega)
    have hlo := z0Q (lowL r nm ++ [(nm, vl)] ++ z5L (r.take k) nm)
    simp only [List.length_append, List.length_singleton] at hlo
    repeat ((try conv => whnf); first | (refine stpQ ?_))
    ((try conv => whnf); first | (refine cb_d (fun h => ?_) (fun h => ?_)) | (refine cb_n (fun h => ?_) (fun h => ?_)) | (refine cb (fun h => ?_) (fun h => ?_)))
    ·have hk2 : k < r.length := by omega
     have hnx := zdh (n := nm) hk2
     repeat ((try conv => whnf); first | (refine Exists.intro _ (And.intro (z1K hk2) ?_)) | (refine stpQ ?_))
     ((try conv => whnf); first | (refine cb_d (fun h => ?_) (fun h => ?_)) | (refine cb_n (fun h => ?_) (fun h => ?_)) | (refine cb (fun h => ?_) (fun h => ?_)))
     ·repeat ((try conv => whnf); first | (refine Exists.intro _ (And.intro (z1K hk2) ?_)) | (refine And.intro (by simp [z0Q]; omega) ?_) | (refine stpQ ?_))
      refine ⟨k + 1, by omega, by omega, ?_⟩
      (refine z02 (by rfl) ?_ ?_) <;> (repeat' (first | (exact eqA) | (refine shE ?_) | (refine And.intro ?_ ?_)))
      rw [hnx, if_pos (show (!(ltB (lfAt r k).1 nm || decide ((lfAt r k).1 = nm))) = true from h)]
      simp [lvE]
     ·repeat ((try conv => whnf); first | (refine stpQ ?_))
      refine ⟨k + 1, by omega, by omega, ?_⟩
      (refine z02 (by rfl) ?_ ?_) <;> (repeat' (first | (exact eqA) | (refine shE ?_) | (refine And.intro ?_ ?_)))
      rw [hnx, if_neg (show ¬ (!(ltB (lfAt r k).1 nm || decide ((lfAt r k).1 = nm))) = true from fun c => by rw [ltB, h] at c; cases c), List.append_nil]
    ·obtain rfl : k = r.length := by omega
     rw [List.take_length] at hw2 hlo ⊢
     have hP : lowL r nm ++ [(nm, vl)] ++ z5L r nm = putL l nm vl := by rw [putL, hr]
     rw [hP] at hlo ⊢
     have hpl := z0Q (putL l nm vl)
     repeat ((try conv => whnf); first | (refine ccA ([]) (z1L l (by omega) hf) ?_) | (refine stpQ ?_))
     ((try conv => whnf); first | (refine cb_d (fun h => ?_) (fun h => ?_)) | (refine cb_n (fun h => ?_) (fun h => ?_)) | (refine cb (fun h => ?_) (fun h => ?_)))
     ·have e : putR l nm vl = (l, false) := by simp at h; simp [putR, h]
      rw [e]
      repeat ((try conv => whnf); first | (refine And.intro (by simp [z0Q]; omega) ?_) | (refine stpQ ?_))
      (refine z00 (by rfl) ?_ ?_ (by rfl)) <;> repeat' (first | (exact eqA) | (refine shE ?_) | (refine And.intro ?_ ?_))
      rfl
     ·repeat ((try conv => whnf); first | (refine ccA ([]) (z1L (putL l nm vl) (by omega) hf2) ?_) | (refine stpQ ?_))
      ((try conv => whnf); first | (refine cb_d (fun h => ?_) (fun h => ?_)) | (refine cb_n (fun h => ?_) (fun h => ?_)) | (refine cb (fun h => ?_) (fun h => ?_)))
      ·have e : putR l nm vl = (l, false) := by simp at h; simp [putR, h]
       rw [e]
       repeat ((try conv => whnf); first | (refine And.intro (by simp [z0Q]; omega) ?_) | (refine stpQ ?_))
       (refine z00 (by rfl) ?_ ?_ (by rfl)) <;> repeat' (first | (exact eqA) | (refine shE ?_) | (refine And.intro ?_ ?_))
       rfl
      ·rename_i h0
       have e : putR l nm vl = (putL l nm vl, true) := by simp at h h0; simp [putR, h, h0]
       rw [e]
       repeat ((try conv => whnf); first | (refine stpQ ?_))
       (refine z00 (by rfl) ?_ ?_ (by rfl)) <;> repeat' (first | (exact eqA) | (refine shE ?_) | (refine And.intro ?_ ?_))
theorem z9Y (l m : List Lf) (hl : (l.length : Int) ≤ 100000000) (hm : (m.length : Int) ≤ 100000000) : CT Tryz.prog 106 [] [.sl 2 (lvE l), .sl 2 (lvE m)] (.bool (decide (l = m))) [] := by
 have h1 := z0Q l
 have h2 := z0Q m
 refine z01 z0m 1 rfl Tryz.func106 rfl rfl rfl ?_
 repeat ((try conv => whnf); first | (refine stpQ ?_))
 ((try conv => whnf); first | (refine cb_d (fun h => ?_) (fun h => ?_)) | (refine cb_n (fun h => ?_) (fun h => ?_)) | (refine cb (fun h => ?_) (fun h => ?_)))
 ·repeat ((try conv => whnf); first | (refine stpQ ?_))
  (refine z00 (by rfl) ?_ ?_ (by rfl)) <;> repeat' (first | (exact eqA) | (refine shE ?_) | (refine And.intro ?_ ?_))
  have : l ≠ m := fun e => by subst e; exact h rfl
  simp [this]
 ·repeat ((try conv => whnf); first | (refine stpQ ?_))
  have he : l.length = m.length := by omega
  refine z0S Nat (fun k => ⟨[(0, .sl 2 (lvE l)), (1, .sl 2 (lvE m)), (5, .int .i64 (k : Int))], [], 2⟩) (fun k => k ≤ l.length ∧ l.take k = m.take k) (fun k => l.length - k) 0 ⟨by omega, rfl⟩ ?_ ?_
  ·(refine z02 (by rfl) ?_ ?_) <;> repeat' (first | (exact eqA) | (refine shE ?_) | (refine And.intro ?_ ?_))
  ·rintro k ⟨hk, hp⟩
   repeat ((try conv => whnf); first | (refine stpQ ?_))
   ((try conv => whnf); first | (refine cb_d (fun h => ?_) (fun h => ?_)) | (refine cb_n (fun h => ?_) (fun h => ?_)) | (refine cb (fun h => ?_) (fun h => ?_)))
   ·have hk1 : k < l.length := by omega
    have hk2 : k < m.length := by omega
    repeat ((try conv => whnf); first | (refine i_at (z1K hk1) ?_) | (refine i_at (z1K hk2) ?_) | (refine stpQ ?_))
    ((try conv => whnf); first | (refine cb_d (fun h => ?_) (fun h => ?_)) | (refine cb_n (fun h => ?_) (fun h => ?_)) | (refine cb (fun h => ?_) (fun h => ?_)))
    ·have hne : lfAt l k ≠ lfAt m k := fun e => by rw [e] at h; simp [eqC] at h
     repeat ((try conv => whnf); first | (refine stpQ ?_))
     (refine z00 (by rfl) ?_ ?_ (by rfl)) <;> repeat' (first | (exact eqA) | (refine shE ?_) | (refine And.intro ?_ ?_))
     have : l ≠ m := fun e => by subst e; exact hne rfl
     simp [this]
    ·have heq : lfAt l k = lfAt m k := by simp [eqC] at h; exact Prod.ext h.1 h.2
     repeat ((try conv => whnf); first | (refine stpQ ?_))
     refine ⟨k + 1, ⟨by omega, ?_⟩, by omega, ?_⟩
     ·rw [z2b l k hk1, z2b m k hk2, hp, heq]
     ·(refine z02 (by rfl) ?_ ?_) <;> repeat' (first | (exact eqA) | (refine shE ?_) | (refine And.intro ?_ ?_))
   ·obtain rfl : k = l.length := by omega
    have hlm : l = m := by
     rw [List.take_length] at hp
     rw [hp, he, List.take_length]
    repeat ((try conv => whnf); first | (refine stpQ ?_))
    (refine z00 (by rfl) ?_ ?_ (by rfl)) <;> repeat' (first | (exact eqA) | (refine shE ?_) | (refine And.intro ?_ ?_))
    simp [hlm]
theorem zdk (l : List Lf) (nm : Bs) (hl : (l.length : Int) ≤ 1000000000) : CT Tryz.prog 88 [] [.sl 2 (lvE l), .str nm] (.tup [.str ((z0I l nm).getD []), .bool (z0I l nm).isSome]) [] := by
 have hlen := z0Q l
 refine z01 z0m 1 rfl Tryz.func88 rfl rfl rfl ?_
 repeat ((try conv => whnf); first | (refine stpQ ?_))
 refine z0S Nat (fun k => ⟨[(0, .sl 2 (lvE l)), (1, .str nm), (6, .int .i64 (k : Int))], [], 2⟩) (fun k => k ≤ l.length ∧ z0I (l.take k) nm = none) (fun k => l.length - k) 0 ⟨by omega, rfl⟩ ?_ ?_
 ·(refine z02 (by rfl) ?_ ?_) <;> repeat' (first | (exact eqA) | (refine shE ?_) | (refine And.intro ?_ ?_))
 ·rintro k ⟨hk, hp⟩
  by_cases hlt : k < l.length
  ·repeat ((try conv => whnf); first | (refine i_at (z1K hlt) ?_) | (refine stpQ ?_))
   ((try conv => whnf); first | (refine cb_d (fun h => ?_) (fun h => ?_)) | (refine cb_n (fun h => ?_) (fun h => ?_)) | (refine cb (fun h => ?_) (fun h => ?_)))
   ·have hg := zcn hlt hp h
    repeat ((try conv => whnf); first | (refine i_at (z1K hlt) ?_) | (refine stpQ ?_))
    rw [hg]
    (refine z00 (by rfl) ?_ ?_ (by rfl)) <;> (repeat' (first | (exact eqA) | (refine shE ?_) | (refine And.intro ?_ ?_))) <;> rfl
   ·have hg := zcm hlt hp h
    repeat ((try conv => whnf); first | (refine stpQ ?_))
    refine ⟨k + 1, ⟨by omega, hg⟩, by omega, ?_⟩
    (refine z02 (by rfl) ?_ ?_) <;> repeat' (first | (exact eqA) | (refine shE ?_) | (refine And.intro ?_ ?_))
  ·obtain rfl : k = l.length := by omega
   rw [List.take_length] at hp
   repeat ((try conv => whnf); first | (refine stpQ ?_))
   rw [hp]
   (refine z00 (by rfl) ?_ ?_ (by rfl)) <;> (repeat' (first | (exact eqA) | (refine shE ?_) | (refine And.intro ?_ ?_))) <;> rfl
end Go.Proofs.YtgmbkbggnlponaaGreatDoor
namespace Go.Proofs.YtgmbkbggnlponaaGreatDoor
set_option linter.unusedVariables false
set_option linter.unusedSimpArgs false
set_option linter.unusedSectionVars false
open Go.RowKit Pl
attribute [local irreducible] z0t z0u z0y AnsP LeP
def Small9 (l : List Lf) : Prop := ∀ x ∈ l, (x.1.length : Int) ≤ 9 ∧ (x.2.length : Int) ≤ 9
theorem Small9.fit {l : List Lf} (h : Small9 l) : Fit l := fun i => by
 unfold lfAt
 rcases Nat.lt_or_ge i l.length with hl | hl
 ·have := h l[i] (List.getElem_mem hl)
  simp only [List.getD, List.getElem?_eq_getElem hl, Option.getD_some]
  omega
 ·simp [List.getD, List.getElem?_eq_none hl]
theorem Small9.put {l : List Lf} {n v : Bs} (h : Small9 l) (hn : (n.length : Int) ≤ 9) (hv : (v.length : Int) ≤ 9) : Small9 (putL l n v) := by
 intro x hx
 simp only [putL, lowL, z5L, z2z, List.mem_append, List.mem_filter, List.mem_singleton] at hx
 rcases hx with (hx | hx) | hx
 ·exact h x hx.1.1
 ·subst hx; exact ⟨hn, hv⟩
 ·exact h x hx.1.1
theorem zgl (l : List Lf) (n v : Bs) : (putL l n v).length ≤ l.length + 1 := by
 have key : ∀ (r : List Lf), (lowL r n).length + (z5L r n).length ≤ r.length := by
  intro r
  induction r with
  | nil => simp [lowL, z5L]
  | cons x r ih =>
    simp only [lowL, z5L, List.filter_cons] at ih ⊢
    cases h1 : ltB x.1 n <;> by_cases h2 : x.1 = n <;> simp_all <;> omega
 have h1 := key (z2z l n)
 have h2 : (z2z l n).length ≤ l.length := List.length_filter_le _ _
 simp only [putL, List.length_append, List.length_singleton]
 omega
theorem z8X {l : List Lf} {n v : Bs} : (putR l n v).1.length ≤ l.length + 1 := by
 unfold putR
 have := zgl l n v
 cases leavesOk l && leavesOk (putL l n v) <;> simp <;> omega
theorem zhY {l : List Lf} {n v : Bs} (h : leavesOk l = true) : leavesOk (putR l n v).1 = true := by
 unfold putR
 rw [h, Bool.true_and]
 cases h2 : leavesOk (putL l n v) <;> simp [h, h2]
theorem z5l {l : List Lf} {n v : Bs} (h : Small9 l) (hn : (n.length : Int) ≤ 9) (hv : (v.length : Int) ≤ 9) : Small9 (putR l n v).1 := by
 unfold putR
 cases leavesOk l && leavesOk (putL l n v)
 ·exact h
 ·exact h.put hn hv
inductive DR (c : Bs) : Nat → List Lf → Nat → Int → List Lf → Nat → Int → Prop
 | stop {k l i h x i' h'} : i' ≤ c.length → x ≤ k → CT Tryz.prog 33 [curE c i h] [.ptr 1 0 0, .int .i64 9] (.int .i64 ((x : Nat) : Int)) [curE c i' h'] → DR c k l i h l i' h'
 | step {k l i h x i1 h1 s i2 h2 v i3 h3 l' i' h'} : x < 9 → k < x → i1 ≤ c.length → CT Tryz.prog 33 [curE c i h] [.ptr 1 0 0, .int .i64 9] (.int .i64 ((x : Nat) : Int)) [curE c i1 h1] →
    (z1d s = true ∧ s.length ≤ 9) → i2 ≤ c.length → CT Tryz.prog 110 [curE c i1 h1] [.ptr 1 0 0] (.str s) [curE c i2 h2] →
    (z1H v = true ∧ v.length ≤ 9) → i3 ≤ c.length → CT Tryz.prog 153 [curE c i2 h2] [.ptr 1 0 0] (.str v) [curE c i3 h3] →
    DR c (k + 1) (putR l s v).1 i3 h3 l' i' h' → DR c k l i h l' i' h'
theorem zh8 (c : Bs) (hc : (c.length : Int) ≤ 1048576) : ∀ (f k : Nat) (l : List Lf) (i : Nat) (h : Int), k + f = 9 → i ≤ c.length → leavesOk l = true → Small9 l → l.length ≤ k →
 ∃ l' i' h', DR c k l i h l' i' h' ∧ (leavesOk l' = true ∧ Small9 l' ∧ l'.length ≤ 9) ∧ i' ≤ c.length
 | f, k, l, i, h, hf, hi, ho, hs, hl => by
   obtain ⟨x, i1, h1, hx, hi1, cb⟩ := z15 c i h 9 hc hi (by omega)
   by_cases hk : k < x
   ·obtain ⟨s, i2, h2, hs2, hi2, cn⟩ := za0 c i1 h1 hc hi1
    obtain ⟨v, i3, h3, hv, hi3, cv⟩ := zdo c i2 h2 hc hi2
    cases f with
    | zero => omega
    | succ f =>
      have := z8X (l := l) (n := s) (v := v)
      obtain ⟨l', i', h', hd, hr, hi'⟩ := zh8 c hc f (k + 1) (putR l s v).1 i3 h3 (by omega) hi3 (zhY ho) (z5l hs (by omega) (by omega)) (by omega)
      exact ⟨l', i', h', .step hx hk hi1 cb hs2 hi2 cn hv hi3 cv hd, hr, hi'⟩
   ·exact ⟨l, i1, h1, .stop hi1 (by omega) cb, ⟨ho, hs, by omega⟩, hi1⟩
set_option maxRecDepth 100000 in
set_option maxHeartbeats 1000000 in
theorem zf6 (c : Bs) (i : Nat) (h : Int) (hc : (c.length : Int) ≤ 1048576) (hi : i ≤ c.length) : ∃ (l : List Lf) (i' : Nat) (h' : Int), (leavesOk l = true ∧ Small9 l ∧ l.length ≤ 9) ∧ i' ≤ c.length ∧ CT Tryz.prog 111 [curE c i h] [.ptr 1 0 0] (.ref 2) [curE c i' h', .row 2 (lvE l)] := by
 obtain ⟨L, i', h', hd, hr, hi'⟩ := zh8 c hc 9 0 [] i h rfl hi (by rfl) (fun x hx => by cases hx) (by simp)
 refine ⟨L, i', h', hr, hi', z01 z0m 2 rfl Tryz.func111 rfl rfl rfl ?_⟩
 repeat ((try conv => whnf); first | (refine stpQ ?_))
 refine z0S (Nat × List Lf × Nat × Int) (fun ⟨k, l, i, h⟩ => ⟨[(0, .ptr 1 0 0), (3, .ref 2), (4, .int .i64 (k : Int))], [(1, some (curE c i h)), (2, some (.row 2 (lvE l)))], 3⟩) (fun ⟨k, l, i, h⟩ => DR c k l i h L i' h' ∧ k ≤ 9 ∧ l.length ≤ k ∧ Small9 l) (fun ⟨k, l, i, h⟩ => 9 - k) (0, [], i, h) ⟨hd, by omega, by simp, fun x hx => by cases hx⟩ ?_ ?_
 ·(refine z02 (by rfl) ?_ ?_) <;> (repeat' (first | (exact eqA) | (refine shE ?_) | (refine And.intro ?_ ?_))) <;> first | rfl | decide
 ·rintro ⟨k, l, i, h⟩ ⟨hd, hk, hl, hs⟩
  have hll := z0Q l
  cases hd with
  | stop hi1 hx cb =>
    repeat ((try conv => whnf); first | (refine ccB ([1]) (cb) ?_) | (refine stpQ ?_))
    (refine z00 (by rfl) ?_ ?_ (by rfl)) <;> (repeat' (first | (exact eqA) | (refine shE ?_) | (refine And.intro ?_ ?_)))
  | @step _ _ _ _ x i1 h1 s i2 h2 v i3 h3 _ _ _ hx hkx hi1 cb hs2 hi2 cn hv hi3 cv hd' =>
    have hpl := z8X (l := l) (n := s) (v := v)
    have hsp := z5l hs (n := s) (v := v) (by omega) (by omega)
    have cp := z7Y l s v (by omega) hs.fit (hs.put (by omega) (by omega)).fit
    repeat ((try conv => whnf); first | (refine ccB ([1]) (cb) ?_) | (refine ccB ([1]) (cn) ?_) | (refine ccB ([1]) (cv) ?_) | (refine z6w ([2]) ([]) (cp) (by ((repeat' (first | (exact trivial) | (exact rfl) | (decide) | (refine And.intro ?_ ?_))); first | done | fail)) (by ((repeat' (first | (exact trivial) | (exact rfl) | (decide) | (refine And.intro ?_ ?_))); first | done | fail)) (by decide) (by rfl) (by first | exact .inl rfl | (refine .inr ⟨?_, ?_⟩ <;> simp [own2, own1, own0, ownE])) ?_) | (refine stpQ ?_))
    refine ⟨(k + 1, (putR l s v).1, i3, h3), ⟨hd', by omega, by omega, hsp⟩, (by show 9 - (k + 1) < 9 - k; omega), ?_⟩
    (refine z02 (by rfl) ?_ ?_) <;> (repeat' (first | (exact eqA) | (refine shE ?_) | (refine And.intro ?_ ?_)))
end Go.Proofs.YtgmbkbggnlponaaGreatDoor
namespace Go.Proofs.YtgmbkbggnlponaaGreatDoor
set_option maxRecDepth 100000
set_option maxHeartbeats 1000000
set_option linter.unusedVariables false
set_option linter.unusedSimpArgs false
set_option linter.unusedSectionVars false
open Go.RowKit Pl
attribute [local irreducible] z0t z0u z0y AnsP LeP
theorem w_muln {a n : Nat} {K : Int → Prop} (h : a * OfNat.ofNat n ≤ 9223372036854775807) (hk : K ((a * OfNat.ofNat n : Nat) : Int)) : ∃ r, r = IntKind.i64.wrap ((a : Int) * (OfNat.ofNat n : Int)) ∧ K r :=
 w_mul (b := OfNat.ofNat n) h hk
theorem zfq (c : Bs) (i : Nat) (h : Int) (n : Nat) (hc : (c.length : Int) ≤ 1048576) (hi : i ≤ c.length) (hn : 0 < n) : ∃ (x i' : Nat) (h' : Int), x < n ∧ i' ≤ c.length ∧ CT Tryz.prog 33 [curE c i h] [.ptr 1 0 0, .int .i64 (n : Int)] (.int .i64 (x : Int)) [curE c i' h'] := by
 by_cases h256 : n ≤ 256
 ·exact z15 c i h n hc hi ⟨hn, h256⟩
 ·obtain ⟨x, i1, h1, hx, hi1, k1⟩ := z38 c i h hc hi
  obtain ⟨y, i2, h2, hy, hi2, k2⟩ := z38 c i1 h1 hc hi1
  obtain ⟨z, i3, h3, hz, hi3, k3⟩ := z38 c i2 h2 hc hi2
  obtain ⟨v, i4, h4, hv, hi4, k4⟩ := z38 c i3 h3 hc hi3
  refine ⟨(x * 16777216 + y * 65536 + z * 256 + v) % n, i4, h4, Nat.mod_lt _ hn, hi4, z01 z0m 2 rfl Tryz.func33 rfl rfl rfl ?_⟩
  repeat ((try conv => whnf); first | (refine ccB ([1]) (k1) ?_) | (refine ccB ([1]) (k2) ?_) | (refine ccB ([1]) (k3) ?_) | (refine ccB ([1]) (k4) ?_) | (refine w_muln (by omega) ?_) | (refine zhP ?_) | (refine stpQ ?_))
  (refine z00 (by rfl) ?_ ?_ (by rfl)) <;> repeat' (first | (exact eqA) | (refine shE ?_) | (refine And.intro ?_ ?_))
inductive TR (c : Bs) : Nat → Nat → Int → Bs → Bs → Nat → Int → Prop
 | stop {i h out} : TR c 0 i h out out i h
 | step {n i h out x i1 h1 out' i' h'} : x ≤ 255 → i1 ≤ c.length → CT Tryz.prog 89 [curE c i h] [.ptr 1 0 0] (.int .i64 ((x : Nat) : Int)) [curE c i1 h1] → TR c n i1 h1 (out ++ [UInt8.ofNat x]) out' i' h' → TR c (n + 1) i h out out' i' h'
theorem zhd (c : Bs) (hc : (c.length : Int) ≤ 1048576) : ∀ (n i : Nat) (h : Int) (out : Bs), i ≤ c.length → ∃ out' i' h', TR c n i h out out' i' h' ∧ out'.length = out.length + n ∧ i' ≤ c.length
 | 0, i, h, out, hi => ⟨out, i, h, .stop, rfl, hi⟩
 | n + 1, i, h, out, hi => by
   obtain ⟨x, i1, h1, hx, hi1, k1⟩ := z38 c i h hc hi
   obtain ⟨out', i', h', ht, hl, hi'⟩ := zhd c hc n i1 h1 (out ++ [UInt8.ofNat x]) hi1
   exact ⟨out', i', h', .step hx hi1 k1 ht, by rw [hl]; simp; omega, hi'⟩
theorem zcK (c : Bs) (i : Nat) (h : Int) (n : Nat) (hc : (c.length : Int) ≤ 1048576) (hi : i ≤ c.length) (hn : n ≤ 5000) : ∃ (s : Bs) (i' : Nat) (h' : Int), s.length = n ∧ i' ≤ c.length ∧ CT Tryz.prog 94 [curE c i h] [.ptr 1 0 0, .int .i64 (n : Int)] (.str s) [curE c i' h'] := by
 obtain ⟨s, i', h', ht, hl, hi'⟩ := zhd c hc n i h [] hi
 refine ⟨s, i', h', by simpa using hl, hi', z01 z0m 2 rfl Tryz.func94 rfl rfl rfl ?_⟩
 repeat ((try conv => whnf); first | (refine stpQ ?_))
 refine z0S (Nat × Nat × Int × Bs) (fun ⟨k, i, h, out⟩ => ⟨[(0, .ptr 1 0 0), (1, .int .i64 (n : Int)), (5, .ref 2), (6, .int .i64 (k : Int))], [(1, some (curE c i h)), (2, some (.row 1 (z0f out)))], 3⟩) (fun ⟨k, i, h, out⟩ => TR c (n - k) i h out s i' h' ∧ k ≤ n ∧ out.length = k) (fun ⟨k, i, h, out⟩ => n - k) (0, i, h, []) ⟨ht, by omega, rfl⟩ ?_ ?_
 ·(refine z02 (by rfl) ?_ ?_) <;> (repeat' (first | (exact eqA) | (refine shE ?_) | (refine And.intro ?_ ?_))) <;> first | rfl | decide
 ·rintro ⟨k, i, h, out⟩ ⟨hd, hk, hlo⟩
  have hbl := z0F out
  by_cases hlt : k < n
  ·obtain ⟨m, hm⟩ : ∃ m, n - k = m + 1 := ⟨n - k - 1, by omega⟩
   rw [hm] at hd
   cases hd with
   | @step _ _ _ _ x i1 h1 _ _ _ hx hi1 k1 hd' =>
     repeat ((try conv => whnf); first | (refine ccB ([1]) (k1) ?_) | (refine w_u8 ?_) | (refine And.intro (by simp [z0F]; omega) ?_) | (refine stpQ ?_))
     refine ⟨(k + 1, i1, h1, out ++ [UInt8.ofNat x]), ⟨by rw [show n - (k + 1) = m by omega]; exact hd', by omega, by simp; omega⟩, (by show n - (k + 1) < n - k; omega), ?_⟩
     (refine z02 (by rfl) ?_ ?_) <;> (repeat' (first | (exact eqA) | (refine shE ?_) | (refine And.intro ?_ ?_)))
     simp [z0f, z49]
  ·have hz : n - k = 0 := by omega
   rw [hz] at hd
   cases hd with
   | stop =>
     repeat ((try conv => whnf); first | (refine Exists.intro s (And.intro rfl ?_)) | (refine stpQ ?_))
     (refine z00 (by rfl) ?_ ?_ (by rfl)) <;> (repeat' (first | (exact eqA) | (refine shE ?_) | (refine And.intro ?_ ?_)))
theorem zcL (c : Bs) (i : Nat) (h : Int) (s : Bs) (hc : (c.length : Int) ≤ 1048576) (hi : i ≤ c.length) (hs : (s.length : Int) ≤ 1000000) : ∃ (r : Bs) (i' : Nat) (h' : Int), r.length ≤ s.length + 1 ∧ i' ≤ c.length ∧ CT Tryz.prog 35 [curE c i h] [.ptr 1 0 0, .str s] (.str r) [curE c i' h'] := by
 obtain ⟨x, i1, h1, hx, hi1, k1⟩ := z15 c i h 12 hc hi (by omega)
 by_cases h0 : x = 0
 ·subst h0
  obtain ⟨u, i2, h2, hu, hi2, k2⟩ := zcK c i1 h1 1 hc hi1 (by omega)
  refine ⟨s ++ u, i2, h2, by simp; omega, hi2, z01 z0m 2 rfl Tryz.func35 rfl rfl rfl ?_⟩
  repeat ((try conv => whnf); first | (refine ccB ([1]) (k1) ?_) | (refine ccB ([1]) (k2) ?_) | (refine stpQ ?_))
  (refine z00 (by rfl) ?_ ?_ (by rfl)) <;> (repeat' (first | (exact eqA) | (refine shE ?_) | (refine And.intro ?_ ?_)))
 ·by_cases h01 : x = 1
  ·subst h01
   obtain ⟨m, i2, h2, hm, hi2, k2⟩ := zfq c i1 h1 (s.length + 1) hc hi1 (by omega)
   refine ⟨s.take m, i2, h2, by simp; omega, hi2, z01 z0m 2 rfl Tryz.func35 rfl rfl rfl ?_⟩
   repeat ((try conv => whnf); first | (refine ccB ([1]) (k1) ?_) | (refine ccB ([1]) (k2) ?_) | (refine stpQ ?_))
   (refine z00 (by rfl) ?_ ?_ (by rfl)) <;> (repeat' (first | (exact eqA) | (refine shE ?_) | (refine And.intro ?_ ?_)))
  ·by_cases h23 : (x = 2 ∨ x = 3) ∧ 0 < s.length
   ·obtain ⟨m, i2, h2, hm, hi2, k2⟩ := zfq c i1 h1 s.length hc hi1 (by omega)
    obtain ⟨u, i3, h3, hu, hi3, k3⟩ := zcK c i2 h2 1 hc hi2 (by omega)
    refine ⟨s.take m ++ u ++ s.drop (m + 1), i3, h3, by simp; omega, hi3, z01 z0m 2 rfl Tryz.func35 rfl rfl rfl ?_⟩
    repeat' (first | ((try conv => whnf); first | (refine ccB ([1]) (k1) ?_) | (refine ccB ([1]) (k2) ?_) | (refine ccB ([1]) (k3) ?_) | (refine And.intro (by simp only [List.length_append, List.length_take, List.length_drop]; omega) ?_) | (refine stpQ ?_)) | ((try conv => whnf); first | (refine cb_d (fun h => ?_) (fun h => ?_)) | (refine cb_n (fun h => ?_) (fun h => ?_)) | (refine cb (fun h => ?_) (fun h => ?_))))
    all_goals first
     | (exfalso; omega)
     | ((conv => whnf); refine And.intro ?_ ?_; (simp only [pw, nuOk, List.all_cons, List.all_nil, Bool.and_true]; simp [zb9, z7u, disj]; decide); ((refine z00 (by rfl) ?_ ?_ (by rfl)) <;> (repeat' (first | (exact eqA) | (refine shE ?_) | (refine And.intro ?_ ?_)))))
   ·refine ⟨s, i1, h1, by omega, hi1, z01 z0m 2 rfl Tryz.func35 rfl rfl rfl ?_⟩
    repeat' (first | ((try conv => whnf); first | (refine ccB ([1]) (k1) ?_) | (refine stpQ ?_)) | ((try conv => whnf); first | (refine cb_d (fun h => ?_) (fun h => ?_)) | (refine cb_n (fun h => ?_) (fun h => ?_)) | (refine cb (fun h => ?_) (fun h => ?_))))
    all_goals first
     | (exfalso; omega)
     | ((refine z00 (by rfl) ?_ ?_ (by rfl)) <;> (repeat' (first | (exact eqA) | (refine shE ?_) | (refine And.intro ?_ ?_))))
end Go.Proofs.YtgmbkbggnlponaaGreatDoor
