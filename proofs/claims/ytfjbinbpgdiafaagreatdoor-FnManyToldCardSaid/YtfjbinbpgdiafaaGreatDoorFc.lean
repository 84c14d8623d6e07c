/- Functions by content: an entry is looked up, put, dropped. Functions by content: an entry is dropped; one is put, by the reference; lists are compared. Functions by content: lists and names drawn. Functions by content: more of what is drawn: any bound, texts, spoilt texts. -/
import Derived.Test.YtfjbinbpgdiafaaGreatDoorFa
import Derived.Test.YtfjbinbpgdiafaaGreatDoorPlainM
import Derived.Test.YtfjbinbpgdiafaaGreatDoorFb
namespace Go.Proofs.YtfjbinbpgdiafaaGreatDoor
set_option maxRecDepth 100000
set_option maxHeartbeats 400000
set_option linter.unusedVariables false
set_option linter.unusedSimpArgs false
set_option linter.unusedSectionVars false
open Go.RowKit Pl
attribute [local irreducible] z0t z0u z0A AnsP LeP
theorem zcu (l : List Lf) (nm : Bs) (hl : (l.length : Int) ≤ 1000000000) : CT Tryz.prog 96 [] [.sl 2 (lvE l), .str nm] (.tup [.str ((z0W l nm).getD []), .bool (z0W l nm).isSome]) [] := by
 have hlen := z0v l
 refine z0b z0q 1 rfl Tryz.func96 rfl rfl rfl ?_
 repeat ((try conv => whnf); first | (refine stpQ ?_))
 refine z0K Nat (fun k => ⟨[(1, .str nm), (8, .sl 2 (lvE l)), (9, .int .i64 ((lvE l).length : Int)), (10, .int .i64 (k : Int))], [], 2⟩) (fun k => k ≤ l.length ∧ z0W (l.take k) nm = none) (fun k => l.length - k) 0 ⟨by omega, rfl⟩ ?_ ?_
 ·(refine z01 (by rfl) ?_ ?_) <;> repeat' (first | (exact eqA) | (refine shE ?_) | (refine And.intro ?_ ?_))
 ·rintro k ⟨hk, hp⟩
  repeat ((try conv => whnf); first | (refine stpQ ?_))
  ((try conv => whnf); first | (refine cb_d (fun h => ?_) (fun h => ?_)) | (refine cb_n (fun h => ?_) (fun h => ?_)) | (refine cb (fun h => ?_) (fun h => ?_)))
  ·have hlt : k < l.length := by omega
   repeat ((try conv => whnf); first | (refine i_at (z13 hlt) ?_) | (refine stpQ ?_))
   ((try conv => whnf); first | (refine cb_d (fun h => ?_) (fun h => ?_)) | (refine cb_n (fun h => ?_) (fun h => ?_)) | (refine cb (fun h => ?_) (fun h => ?_)))
   ·have hg := za6 hlt hp h
    repeat ((try conv => whnf); first | (refine stpQ ?_))
    rw [hg]
    (refine z02 (by rfl) ?_ ?_ (by rfl)) <;> (repeat' (first | (exact eqA) | (refine shE ?_) | (refine And.intro ?_ ?_))) <;> rfl
   ·have hg := za5 hlt hp h
    repeat ((try conv => whnf); first | (refine stpQ ?_))
    refine ⟨k + 1, ⟨by omega, hg⟩, by omega, ?_⟩
    (refine z01 (by rfl) ?_ ?_) <;> repeat' (first | (exact eqA) | (refine shE ?_) | (refine And.intro ?_ ?_))
  ·obtain rfl : k = l.length := by omega
   rw [List.take_length] at hp
   repeat ((try conv => whnf); first | (refine stpQ ?_))
   rw [hp]
   (refine z02 (by rfl) ?_ ?_ (by rfl)) <;> (repeat' (first | (exact eqA) | (refine shE ?_) | (refine And.intro ?_ ?_))) <;> rfl
theorem zcv (l : List Lf) (nm : Bs) (hl : (l.length : Int) ≤ 100000000) : CT Tryz.prog 194 [] [.sl 2 (lvE l), .str nm] (.ref 1) [.row 2 (lvE (z1C l nm))] := by
 have hlen := z0v l
 refine z0b z0q 1 rfl Tryz.func194 rfl rfl rfl ?_
 repeat ((try conv => whnf); first | (refine stpQ ?_))
 refine z0K Nat (fun k => ⟨[(0, .sl 2 (lvE l)), (1, .str nm), (5, .ref 1), (6, .int .i64 (k : Int))], [(1, some (.row 2 (lvE (z1C (l.take k) nm))))], 2⟩) (fun k => k ≤ l.length) (fun k => l.length - k) 0 (by omega) ?_ ?_
 ·(refine z01 (by rfl) ?_ ?_) <;> (repeat' (first | (exact eqA) | (refine shE ?_) | (refine And.intro ?_ ?_))) <;> first | rfl | decide
 ·intro k hk
  repeat ((try conv => whnf); first | (refine stpQ ?_))
  ((try conv => whnf); first | (refine cb_d (fun h => ?_) (fun h => ?_)) | (refine cb_n (fun h => ?_) (fun h => ?_)) | (refine cb (fun h => ?_) (fun h => ?_)))
  ·have hk2 : k < l.length := by omega
   repeat ((try conv => whnf); first | (refine i_at (z13 hk2) ?_) | (refine stpQ ?_))
   ((try conv => whnf); first | (refine cb_d (fun h => ?_) (fun h => ?_)) | (refine cb_n (fun h => ?_) (fun h => ?_)) | (refine cb (fun h => ?_) (fun h => ?_)))
   ·have hw : (z1C (l.take k) nm).length ≤ k := Nat.le_trans (List.length_filter_le _ _) (by simp; omega)
    repeat ((try conv => whnf); first | (refine i_at (z13 hk2) ?_) | (refine And.intro (by simp [z0v]; omega) ?_) | (refine stpQ ?_))
    refine ⟨k + 1, by omega, by omega, ?_⟩
    (refine z01 (by rfl) ?_ ?_) <;> repeat' (first | (exact eqA) | (refine shE ?_) | (refine And.intro ?_ ?_))
    rw [z4i hk2, if_neg h, z2Z]; rfl
   ·repeat ((try conv => whnf); first | (refine stpQ ?_))
    refine ⟨k + 1, by omega, by omega, ?_⟩
    (refine z01 (by rfl) ?_ ?_) <;> repeat' (first | (exact eqA) | (refine shE ?_) | (refine And.intro ?_ ?_))
    rw [z4i hk2, if_pos h, List.append_nil]
  ·obtain rfl : k = l.length := by omega
   repeat ((try conv => whnf); first | (refine stpQ ?_))
   (refine z02 (by rfl) ?_ ?_ (by rfl)) <;> repeat' (first | (exact eqA) | (refine shE ?_) | (refine And.intro ?_ ?_))
   rw [List.take_length]
end Go.Proofs.YtfjbinbpgdiafaaGreatDoor
namespace Go.Proofs.YtfjbinbpgdiafaaGreatDoor
set_option maxRecDepth 100000
set_option maxHeartbeats 1000000
set_option linter.unusedVariables false
set_option linter.unusedSimpArgs false
set_option linter.unusedSectionVars false
open Go.RowKit Pl
attribute [local irreducible] z0t z0u z0A AnsP LeP
theorem zbb (l : List Lf) (nm vl : Bs) (hl : (l.length : Int) ≤ 10000000) (hf : Fit l) (hf2 : Fit (putL l nm vl)) : CT Tryz.prog 168 [] [.sl 2 (lvE l), .str nm, .str vl] (.tup [.ref 1, .bool (putR l nm vl).2]) [.row 2 (lvE (putR l nm vl).1)] := by
 have hlen := z0v l
 refine z0b z0q 1 rfl Tryz.func168 rfl rfl rfl ?_
 repeat ((try conv => whnf); first | (refine ccA ([]) (zcv l nm (by omega)) ?_) | (refine stpQ ?_))
 generalize hr : z1C l nm = r
 have hrl : r.length ≤ l.length := by rw [← hr]; exact List.length_filter_le _ _
 have hlr := z0v r
 refine z0K Nat (fun k => ⟨[(0, .sl 2 (lvE l)), (1, .str nm), (2, .str vl), (8, .ref 1), (9, .ref 2), (10, .int .i64 (k : Int))], [(1, some (.row 2 (lvE (lowL (r.take k) nm)))), (2, some (.row 2 (lvE r)))], 3⟩) (fun k => k ≤ r.length) (fun k => r.length - k) 0 (by omega) ?_ ?_
 ·(refine z01 (by rfl) ?_ ?_) <;> (repeat' (first | (exact eqA) | (refine shE ?_) | (refine And.intro ?_ ?_))) <;> first | rfl | decide
 ·intro k hk
  have hw : (lowL (r.take k) nm).length ≤ k := Nat.le_trans (List.length_filter_le _ _) (by simp; omega)
  repeat ((try conv => whnf); first | (refine stpQ ?_))
  ((try conv => whnf); first | (refine cb_d (fun h => ?_) (fun h => ?_)) | (refine cb_n (fun h => ?_) (fun h => ?_)) | (refine cb (fun h => ?_) (fun h => ?_)))
  ·have hk2 : k < r.length := by omega
   have hnx := zce (n := nm) hk2
   repeat ((try conv => whnf); first | (refine Exists.intro _ (And.intro (z13 hk2) ?_)) | (refine stpQ ?_))
   ((try conv => whnf); first | (refine cb_d (fun h => ?_) (fun h => ?_)) | (refine cb_n (fun h => ?_) (fun h => ?_)) | (refine cb (fun h => ?_) (fun h => ?_)))
   ·repeat ((try conv => whnf); first | (refine Exists.intro _ (And.intro (z13 hk2) ?_)) | (refine And.intro (by simp [z0v]; omega) ?_) | (refine stpQ ?_))
    refine ⟨k + 1, by omega, by omega, ?_⟩
    (refine z01 (by rfl) ?_ ?_) <;> (repeat' (first | (exact eqA) | (refine shE ?_) | (refine And.intro ?_ ?_)))
    rw [hnx, if_pos (show ltB (lfAt r k).1 nm = true from h), z2Z]; rfl
   ·repeat ((try conv => whnf); first | (refine stpQ ?_))
    refine ⟨k + 1, by omega, by omega, ?_⟩
    (refine z01 (by rfl) ?_ ?_) <;> (repeat' (first | (exact eqA) | (refine shE ?_) | (refine And.intro ?_ ?_)))
    rw [hnx, if_neg (by rw [ltB, h]; decide), List.append_nil]
  ·obtain rfl : k = r.length := by omega
   rw [List.take_length] at hw ⊢
   repeat ((try conv => whnf); first | (refine And.intro (by simp [z0v]; omega) ?_) | (refine stpQ ?_))
   refine z0K Nat (fun k => ⟨[(0, .sl 2 (lvE l)), (1, .str nm), (2, .str vl), (8, .ref 1), (9, .ref 2), (11, .int .i64 (k : Int))], [(1, some (.row 2 (lvE (lowL r nm ++ [(nm, vl)] ++ z4p (r.take k) nm)))), (2, some (.row 2 (lvE r)))], 3⟩) (fun k => k ≤ r.length) (fun k => r.length - k) 0 (by omega) ?_ ?_
   ·(refine z01 (by rfl) ?_ ?_) <;> (repeat' (first | (exact eqA) | (refine shE ?_) | (refine And.intro ?_ ?_))) <;> first | decide | (simp [lvE, z4p]; done)
   ·intro k hk
    have hw2 : (z4p (r.take k) nm).length ≤ k := Nat.le_trans (List.length_filter_le _ _) (by simp; omega)
    have hlo := z0v (lowL r nm ++ [(nm, vl)] ++ z4p (r.take k) nm)
    simp only [List.length_append, List.length_singleton] at hlo
    repeat ((try conv => whnf); first | (refine stpQ ?_))
    ((try conv => whnf); first | (refine cb_d (fun h => ?_) (fun h => ?_)) | (refine cb_n (fun h => ?_) (fun h => ?_)) | (refine cb (fun h => ?_) (fun h => ?_)))
    ·have hk2 : k < r.length := by omega
     have hnx := zb0 (n := nm) hk2
     repeat ((try conv => whnf); first | (refine Exists.intro _ (And.intro (z13 hk2) ?_)) | (refine stpQ ?_))
     ((try conv => whnf); first | (refine cb_d (fun h => ?_) (fun h => ?_)) | (refine cb_n (fun h => ?_) (fun h => ?_)) | (refine cb (fun h => ?_) (fun h => ?_)))
     ·repeat ((try conv => whnf); first | (refine Exists.intro _ (And.intro (z13 hk2) ?_)) | (refine And.intro (by simp [z0v]; omega) ?_) | (refine stpQ ?_))
      refine ⟨k + 1, by omega, by omega, ?_⟩
      (refine z01 (by rfl) ?_ ?_) <;> (repeat' (first | (exact eqA) | (refine shE ?_) | (refine And.intro ?_ ?_)))
      rw [hnx, if_pos (show (!(ltB (lfAt r k).1 nm || decide ((lfAt r k).1 = nm))) = true from h)]
      simp [lvE]
     ·repeat ((try conv => whnf); first | (refine stpQ ?_))
      refine ⟨k + 1, by omega, by omega, ?_⟩
      (refine z01 (by rfl) ?_ ?_) <;> (repeat' (first | (exact eqA) | (refine shE ?_) | (refine And.intro ?_ ?_)))
      rw [hnx, if_neg (show ¬ (!(ltB (lfAt r k).1 nm || decide ((lfAt r k).1 = nm))) = true from fun c => by rw [ltB, h] at c; cases c), List.append_nil]
    ·obtain rfl : k = r.length := by omega
     rw [List.take_length] at hw2 hlo ⊢
     have hP : lowL r nm ++ [(nm, vl)] ++ z4p r nm = putL l nm vl := by rw [putL, hr]
     rw [hP] at hlo ⊢
     have hpl := z0v (putL l nm vl)
     repeat ((try conv => whnf); first | (refine ccA ([]) (z1n l (by omega) hf) ?_) | (refine stpQ ?_))
     ((try conv => whnf); first | (refine cb_d (fun h => ?_) (fun h => ?_)) | (refine cb_n (fun h => ?_) (fun h => ?_)) | (refine cb (fun h => ?_) (fun h => ?_)))
     ·have e : putR l nm vl = (l, false) := by simp at h; simp [putR, h]
      rw [e]
      repeat ((try conv => whnf); first | (refine And.intro (by simp [z0v]; omega) ?_) | (refine stpQ ?_))
      (refine z02 (by rfl) ?_ ?_ (by rfl)) <;> repeat' (first | (exact eqA) | (refine shE ?_) | (refine And.intro ?_ ?_))
      rfl
     ·repeat ((try conv => whnf); first | (refine ccA ([]) (z1n (putL l nm vl) (by omega) hf2) ?_) | (refine stpQ ?_))
      ((try conv => whnf); first | (refine cb_d (fun h => ?_) (fun h => ?_)) | (refine cb_n (fun h => ?_) (fun h => ?_)) | (refine cb (fun h => ?_) (fun h => ?_)))
      ·have e : putR l nm vl = (l, false) := by simp at h; simp [putR, h]
       rw [e]
       repeat ((try conv => whnf); first | (refine And.intro (by simp [z0v]; omega) ?_) | (refine stpQ ?_))
       (refine z02 (by rfl) ?_ ?_ (by rfl)) <;> repeat' (first | (exact eqA) | (refine shE ?_) | (refine And.intro ?_ ?_))
       rfl
      ·rename_i h0
       have e : putR l nm vl = (putL l nm vl, true) := by simp at h h0; simp [putR, h, h0]
       rw [e]
       repeat ((try conv => whnf); first | (refine stpQ ?_))
       (refine z02 (by rfl) ?_ ?_ (by rfl)) <;> repeat' (first | (exact eqA) | (refine shE ?_) | (refine And.intro ?_ ?_))
theorem z8j (l m : List Lf) (hl : (l.length : Int) ≤ 100000000) (hm : (m.length : Int) ≤ 100000000) : CT Tryz.prog 49 [] [.sl 2 (lvE l), .sl 2 (lvE m)] (.bool (decide (l = m))) [] := by
 have h1 := z0v l
 have h2 := z0v m
 refine z0b z0q 1 rfl Tryz.func49 rfl rfl rfl ?_
 repeat ((try conv => whnf); first | (refine stpQ ?_))
 ((try conv => whnf); first | (refine cb_d (fun h => ?_) (fun h => ?_)) | (refine cb_n (fun h => ?_) (fun h => ?_)) | (refine cb (fun h => ?_) (fun h => ?_)))
 ·repeat ((try conv => whnf); first | (refine stpQ ?_))
  (refine z02 (by rfl) ?_ ?_ (by rfl)) <;> repeat' (first | (exact eqA) | (refine shE ?_) | (refine And.intro ?_ ?_))
  have : l ≠ m := fun e => by subst e; exact h rfl
  simp [this]
 ·repeat ((try conv => whnf); first | (refine stpQ ?_))
  have he : l.length = m.length := by omega
  refine z0K Nat (fun k => ⟨[(0, .sl 2 (lvE l)), (1, .sl 2 (lvE m)), (5, .int .i64 (k : Int))], [], 2⟩) (fun k => k ≤ l.length ∧ l.take k = m.take k) (fun k => l.length - k) 0 ⟨by omega, rfl⟩ ?_ ?_
  ·(refine z01 (by rfl) ?_ ?_) <;> repeat' (first | (exact eqA) | (refine shE ?_) | (refine And.intro ?_ ?_))
  ·rintro k ⟨hk, hp⟩
   repeat ((try conv => whnf); first | (refine stpQ ?_))
   ((try conv => whnf); first | (refine cb_d (fun h => ?_) (fun h => ?_)) | (refine cb_n (fun h => ?_) (fun h => ?_)) | (refine cb (fun h => ?_) (fun h => ?_)))
   ·have hk1 : k < l.length := by omega
    have hk2 : k < m.length := by omega
    repeat ((try conv => whnf); first | (refine i_at (z13 hk1) ?_) | (refine i_at (z13 hk2) ?_) | (refine stpQ ?_))
    ((try conv => whnf); first | (refine cb_d (fun h => ?_) (fun h => ?_)) | (refine cb_n (fun h => ?_) (fun h => ?_)) | (refine cb (fun h => ?_) (fun h => ?_)))
    ·have hne : lfAt l k ≠ lfAt m k := fun e => by rw [e] at h; simp [eqC] at h
     repeat ((try conv => whnf); first | (refine stpQ ?_))
     (refine z02 (by rfl) ?_ ?_ (by rfl)) <;> repeat' (first | (exact eqA) | (refine shE ?_) | (refine And.intro ?_ ?_))
     have : l ≠ m := fun e => by subst e; exact hne rfl
     simp [this]
    ·have heq : lfAt l k = lfAt m k := by simp [eqC] at h; exact Prod.ext h.1 h.2
     repeat ((try conv => whnf); first | (refine stpQ ?_))
     refine ⟨k + 1, ⟨by omega, ?_⟩, by omega, ?_⟩
     ·rw [z1j l k hk1, z1j m k hk2, hp, heq]
     ·(refine z01 (by rfl) ?_ ?_) <;> repeat' (first | (exact eqA) | (refine shE ?_) | (refine And.intro ?_ ?_))
   ·obtain rfl : k = l.length := by omega
    have hlm : l = m := by
     rw [List.take_length] at hp
     rw [hp, he, List.take_length]
    repeat ((try conv => whnf); first | (refine stpQ ?_))
    (refine z02 (by rfl) ?_ ?_ (by rfl)) <;> repeat' (first | (exact eqA) | (refine shE ?_) | (refine And.intro ?_ ?_))
    simp [hlm]
theorem zbc (l : List Lf) (nm : Bs) (hl : (l.length : Int) ≤ 1000000000) : CT Tryz.prog 97 [] [.sl 2 (lvE l), .str nm] (.tup [.str ((z0W l nm).getD []), .bool (z0W l nm).isSome]) [] := by
 have hlen := z0v l
 refine z0b z0q 1 rfl Tryz.func97 rfl rfl rfl ?_
 repeat ((try conv => whnf); first | (refine stpQ ?_))
 refine z0K Nat (fun k => ⟨[(0, .sl 2 (lvE l)), (1, .str nm), (6, .int .i64 (k : Int))], [], 2⟩) (fun k => k ≤ l.length ∧ z0W (l.take k) nm = none) (fun k => l.length - k) 0 ⟨by omega, rfl⟩ ?_ ?_
 ·(refine z01 (by rfl) ?_ ?_) <;> repeat' (first | (exact eqA) | (refine shE ?_) | (refine And.intro ?_ ?_))
 ·rintro k ⟨hk, hp⟩
  by_cases hlt : k < l.length
  ·repeat ((try conv => whnf); first | (refine i_at (z13 hlt) ?_) | (refine stpQ ?_))
   ((try conv => whnf); first | (refine cb_d (fun h => ?_) (fun h => ?_)) | (refine cb_n (fun h => ?_) (fun h => ?_)) | (refine cb (fun h => ?_) (fun h => ?_)))
   ·have hg := za6 hlt hp h
    repeat ((try conv => whnf); first | (refine i_at (z13 hlt) ?_) | (refine stpQ ?_))
    rw [hg]
    (refine z02 (by rfl) ?_ ?_ (by rfl)) <;> (repeat' (first | (exact eqA) | (refine shE ?_) | (refine And.intro ?_ ?_))) <;> rfl
   ·have hg := za5 hlt hp h
    repeat ((try conv => whnf); first | (refine stpQ ?_))
    refine ⟨k + 1, ⟨by omega, hg⟩, by omega, ?_⟩
    (refine z01 (by rfl) ?_ ?_) <;> repeat' (first | (exact eqA) | (refine shE ?_) | (refine And.intro ?_ ?_))
  ·obtain rfl : k = l.length := by omega
   rw [List.take_length] at hp
   repeat ((try conv => whnf); first | (refine stpQ ?_))
   rw [hp]
   (refine z02 (by rfl) ?_ ?_ (by rfl)) <;> (repeat' (first | (exact eqA) | (refine shE ?_) | (refine And.intro ?_ ?_))) <;> rfl
end Go.Proofs.YtfjbinbpgdiafaaGreatDoor
namespace Go.Proofs.YtfjbinbpgdiafaaGreatDoor
set_option linter.unusedVariables false
set_option linter.unusedSimpArgs false
set_option linter.unusedSectionVars false
open Go.RowKit Pl
attribute [local irreducible] z0t z0u z0A AnsP LeP
def Small9 (l : List Lf) : Prop := ∀ x ∈ l, (x.1.length : Int) ≤ 9 ∧ (x.2.length : Int) ≤ 9
theorem Small9.fit {l : List Lf} (h : Small9 l) : Fit l := fun i => by
 unfold lfAt
 rcases Nat.lt_or_ge i l.length with hl | hl
 ·have := h l[i] (List.getElem_mem hl)
  simp only [List.getD, List.getElem?_eq_getElem hl, Option.getD_some]
  omega
 ·simp [List.getD, List.getElem?_eq_none hl]
theorem Small9.put {l : List Lf} {n v : Bs} (h : Small9 l) (hn : (n.length : Int) ≤ 9) (hv : (v.length : Int) ≤ 9) : Small9 (putL l n v) := by
 intro x hx
 simp only [putL, lowL, z4p, z1C, List.mem_append, List.mem_filter, List.mem_singleton] at hx
 rcases hx with (hx | hx) | hx
 ·exact h x hx.1.1
 ·subst hx; exact ⟨hn, hv⟩
 ·exact h x hx.1.1
theorem zdL (l : List Lf) (n v : Bs) : (putL l n v).length ≤ l.length + 1 := by
 have key : ∀ (r : List Lf), (lowL r n).length + (z4p r n).length ≤ r.length := by
  intro r
  induction r with
  | nil => simp [lowL, z4p]
  | cons x r ih =>
    simp only [lowL, z4p, List.filter_cons] at ih ⊢
    cases h1 : ltB x.1 n <;> by_cases h2 : x.1 = n <;> simp_all <;> omega
 have h1 := key (z1C l n)
 have h2 : (z1C l n).length ≤ l.length := List.length_filter_le _ _
 simp only [putL, List.length_append, List.length_singleton]
 omega
theorem zaj {l : List Lf} {n v : Bs} : (putR l n v).1.length ≤ l.length + 1 := by
 unfold putR
 have := zdL l n v
 cases leavesOk l && leavesOk (putL l n v) <;> simp <;> omega
theorem zfj {l : List Lf} {n v : Bs} (h : leavesOk l = true) : leavesOk (putR l n v).1 = true := by
 unfold putR
 rw [h, Bool.true_and]
 cases h2 : leavesOk (putL l n v) <;> simp [h, h2]
theorem z6t {l : List Lf} {n v : Bs} (h : Small9 l) (hn : (n.length : Int) ≤ 9) (hv : (v.length : Int) ≤ 9) : Small9 (putR l n v).1 := by
 unfold putR
 cases leavesOk l && leavesOk (putL l n v)
 ·exact h
 ·exact h.put hn hv
inductive DR (c : Bs) : Nat → List Lf → Nat → Int → List Lf → Nat → Int → Prop
 | stop {k l i h x i' h'} : i' ≤ c.length → x ≤ k → CT Tryz.prog 71 [curE c i h] [.ptr 1 0 0, .int .i64 9] (.int .i64 ((x : Nat) : Int)) [curE c i' h'] → DR c k l i h l i' h'
 | step {k l i h x i1 h1 s i2 h2 v i3 h3 l' i' h'} : x < 9 → k < x → i1 ≤ c.length → CT Tryz.prog 71 [curE c i h] [.ptr 1 0 0, .int .i64 9] (.int .i64 ((x : Nat) : Int)) [curE c i1 h1] →
    (z0E s = true ∧ s.length ≤ 9) → i2 ≤ c.length → CT Tryz.prog 33 [curE c i1 h1] [.ptr 1 0 0] (.str s) [curE c i2 h2] →
    (z17 v = true ∧ v.length ≤ 9) → i3 ≤ c.length → CT Tryz.prog 154 [curE c i2 h2] [.ptr 1 0 0] (.str v) [curE c i3 h3] →
    DR c (k + 1) (putR l s v).1 i3 h3 l' i' h' → DR c k l i h l' i' h'
theorem zer (c : Bs) (hc : (c.length : Int) ≤ 1048576) : ∀ (f k : Nat) (l : List Lf) (i : Nat) (h : Int), k + f = 9 → i ≤ c.length → leavesOk l = true → Small9 l → l.length ≤ k →
 ∃ l' i' h', DR c k l i h l' i' h' ∧ (leavesOk l' = true ∧ Small9 l' ∧ l'.length ≤ 9) ∧ i' ≤ c.length
 | f, k, l, i, h, hf, hi, ho, hs, hl => by
   obtain ⟨x, i1, h1, hx, hi1, cb⟩ := z1F c i h 9 hc hi (by omega)
   by_cases hk : k < x
   ·obtain ⟨s, i2, h2, hs2, hi2, cn⟩ := z2P c i1 h1 hc hi1
    obtain ⟨v, i3, h3, hv, hi3, cv⟩ := zba c i2 h2 hc hi2
    cases f with
    | zero => omega
    | succ f =>
      have := zaj (l := l) (n := s) (v := v)
      obtain ⟨l', i', h', hd, hr, hi'⟩ := zer c hc f (k + 1) (putR l s v).1 i3 h3 (by omega) hi3 (zfj ho) (z6t hs (by omega) (by omega)) (by omega)
      exact ⟨l', i', h', .step hx hk hi1 cb hs2 hi2 cn hv hi3 cv hd, hr, hi'⟩
   ·exact ⟨l, i1, h1, .stop hi1 (by omega) cb, ⟨ho, hs, by omega⟩, hi1⟩
set_option maxRecDepth 100000 in
set_option maxHeartbeats 1000000 in
theorem z8k (c : Bs) (i : Nat) (h : Int) (hc : (c.length : Int) ≤ 1048576) (hi : i ≤ c.length) : ∃ (l : List Lf) (i' : Nat) (h' : Int), (leavesOk l = true ∧ Small9 l ∧ l.length ≤ 9) ∧ i' ≤ c.length ∧ CT Tryz.prog 120 [curE c i h] [.ptr 1 0 0] (.ref 2) [curE c i' h', .row 2 (lvE l)] := by
 obtain ⟨L, i', h', hd, hr, hi'⟩ := zer c hc 9 0 [] i h rfl hi (by rfl) (fun x hx => by cases hx) (by simp)
 refine ⟨L, i', h', hr, hi', z0b z0q 2 rfl Tryz.func120 rfl rfl rfl ?_⟩
 repeat ((try conv => whnf); first | (refine stpQ ?_))
 refine z0K (Nat × List Lf × Nat × Int) (fun ⟨k, l, i, h⟩ => ⟨[(0, .ptr 1 0 0), (3, .ref 2), (4, .int .i64 (k : Int))], [(1, some (curE c i h)), (2, some (.row 2 (lvE l)))], 3⟩) (fun ⟨k, l, i, h⟩ => DR c k l i h L i' h' ∧ k ≤ 9 ∧ l.length ≤ k ∧ Small9 l) (fun ⟨k, l, i, h⟩ => 9 - k) (0, [], i, h) ⟨hd, by omega, by simp, fun x hx => by cases hx⟩ ?_ ?_
 ·(refine z01 (by rfl) ?_ ?_) <;> (repeat' (first | (exact eqA) | (refine shE ?_) | (refine And.intro ?_ ?_))) <;> first | rfl | decide
 ·rintro ⟨k, l, i, h⟩ ⟨hd, hk, hl, hs⟩
  have hll := z0v l
  cases hd with
  | stop hi1 hx cb =>
    repeat ((try conv => whnf); first | (refine ccB ([1]) (cb) ?_) | (refine stpQ ?_))
    (refine z02 (by rfl) ?_ ?_ (by rfl)) <;> (repeat' (first | (exact eqA) | (refine shE ?_) | (refine And.intro ?_ ?_)))
  | @step _ _ _ _ x i1 h1 s i2 h2 v i3 h3 _ _ _ hx hkx hi1 cb hs2 hi2 cn hv hi3 cv hd' =>
    have hpl := zaj (l := l) (n := s) (v := v)
    have hsp := z6t hs (n := s) (v := v) (by omega) (by omega)
    have cp := zbb l s v (by omega) hs.fit (hs.put (by omega) (by omega)).fit
    repeat ((try conv => whnf); first | (refine ccB ([1]) (cb) ?_) | (refine ccB ([1]) (cn) ?_) | (refine ccB ([1]) (cv) ?_) | (refine z5c ([2]) ([]) (cp) (by ((repeat' (first | (exact trivial) | (exact rfl) | (decide) | (refine And.intro ?_ ?_))); first | done | fail)) (by ((repeat' (first | (exact trivial) | (exact rfl) | (decide) | (refine And.intro ?_ ?_))); first | done | fail)) (by decide) (by rfl) (by first | exact .inl rfl | (refine .inr ⟨?_, ?_⟩ <;> simp [own2, own1, own0, ownE])) ?_) | (refine stpQ ?_))
    refine ⟨(k + 1, (putR l s v).1, i3, h3), ⟨hd', by omega, by omega, hsp⟩, (by show 9 - (k + 1) < 9 - k; omega), ?_⟩
    (refine z01 (by rfl) ?_ ?_) <;> (repeat' (first | (exact eqA) | (refine shE ?_) | (refine And.intro ?_ ?_)))
end Go.Proofs.YtfjbinbpgdiafaaGreatDoor
namespace Go.Proofs.YtfjbinbpgdiafaaGreatDoor
set_option maxRecDepth 100000
set_option maxHeartbeats 1000000
set_option linter.unusedVariables false
set_option linter.unusedSimpArgs false
set_option linter.unusedSectionVars false
open Go.RowKit Pl
attribute [local irreducible] z0t z0u z0A AnsP LeP
theorem w_muln {a n : Nat} {K : Int → Prop} (h : a * OfNat.ofNat n ≤ 9223372036854775807) (hk : K ((a * OfNat.ofNat n : Nat) : Int)) : ∃ r, r = IntKind.i64.wrap ((a : Int) * (OfNat.ofNat n : Int)) ∧ K r :=
 w_mul (b := OfNat.ofNat n) h hk
theorem z2z (c : Bs) (i : Nat) (h : Int) (n : Nat) (hc : (c.length : Int) ≤ 1048576) (hi : i ≤ c.length) (hn : 0 < n) : ∃ (x i' : Nat) (h' : Int), x < n ∧ i' ≤ c.length ∧ CT Tryz.prog 71 [curE c i h] [.ptr 1 0 0, .int .i64 (n : Int)] (.int .i64 (x : Int)) [curE c i' h'] := by
 by_cases h256 : n ≤ 256
 ·exact z1F c i h n hc hi ⟨hn, h256⟩
 ·obtain ⟨x, i1, h1, hx, hi1, k1⟩ := z2o c i h hc hi
  obtain ⟨y, i2, h2, hy, hi2, k2⟩ := z2o c i1 h1 hc hi1
  obtain ⟨z, i3, h3, hz, hi3, k3⟩ := z2o c i2 h2 hc hi2
  obtain ⟨v, i4, h4, hv, hi4, k4⟩ := z2o c i3 h3 hc hi3
  refine ⟨(x * 16777216 + y * 65536 + z * 256 + v) % n, i4, h4, Nat.mod_lt _ hn, hi4, z0b z0q 2 rfl Tryz.func71 rfl rfl rfl ?_⟩
  repeat ((try conv => whnf); first | (refine ccB ([1]) (k1) ?_) | (refine ccB ([1]) (k2) ?_) | (refine ccB ([1]) (k3) ?_) | (refine ccB ([1]) (k4) ?_) | (refine w_muln (by omega) ?_) | (refine zfi ?_) | (refine stpQ ?_))
  (refine z02 (by rfl) ?_ ?_ (by rfl)) <;> repeat' (first | (exact eqA) | (refine shE ?_) | (refine And.intro ?_ ?_))
theorem c_once (c : Bs) (i : Nat) (h : Int) (n : Nat) (hc : (c.length : Int) ≤ 1048576) (hi : i ≤ c.length) (hn : 0 < n) : ∃ (x : Bool) (i' : Nat) (h' : Int), i' ≤ c.length ∧ CT Tryz.prog 56 [curE c i h] [.ptr 1 0 0, .int .i64 (n : Int)] (.bool x) [curE c i' h'] := by
 obtain ⟨x, i', h', hx, hi', k⟩ := z2z c i h n hc hi hn
 refine ⟨decide ((x : Int) = 0), i', h', hi', z0b z0q 2 rfl Tryz.func56 rfl rfl rfl ?_⟩
 repeat ((try conv => whnf); first | (refine ccB ([1]) (k) ?_) | (refine stpQ ?_))
 (refine z02 (by rfl) ?_ ?_ (by rfl)) <;> repeat' (first | (exact eqA) | (refine shE ?_) | (refine And.intro ?_ ?_))
def intE (l : List Int) : List (List T) := l.map fun s => [.int .i64 s]
theorem ze3 (l : List Int) : (intE l).length = l.length := by simp [intE]
theorem zfz {l : List Int} {i : Nat} (h : i < l.length) : (intE l)[i]? = some [.int .i64 (l.getD i 0)] := by simp [intE, List.getD, List.getElem?_eq_getElem h]
theorem z5J (c : Bs) (i : Nat) (h : Int) (l : List Int) (hc : (c.length : Int) ≤ 1048576) (hi : i ≤ c.length) (hl : 0 < l.length ∧ l.length ≤ 256) : ∃ (s : Int) (i' : Nat) (h' : Int), s ∈ l ∧ i' ≤ c.length ∧ CT Tryz.prog 46 [curE c i h] [.ptr 1 0 0, .sl 1 (intE l)] (.int .i64 s) [curE c i' h'] := by
 obtain ⟨x, i', h', hx, hi', k⟩ := z1F c i h l.length hc hi hl
 have hlen := ze3 l
 refine ⟨l.getD x 0, i', h', ?_, hi', z0b z0q 2 rfl Tryz.func46 rfl rfl rfl ?_⟩
 ·simp [List.getD, List.getElem?_eq_getElem hx]
 ·repeat ((try conv => whnf); first | (refine Exists.intro l.length (And.intro hlen ?_)) | (refine ccB ([1]) (k) ?_) | (refine i_at (zfz hx) ?_) | (refine stpQ ?_))
  (refine z02 (by rfl) ?_ ?_ (by rfl)) <;> repeat' (first | (exact eqA) | (refine shE ?_) | (refine And.intro ?_ ?_))
inductive TR (c : Bs) : Nat → Nat → Int → Bs → Bs → Nat → Int → Prop
 | stop {i h out} : TR c 0 i h out out i h
 | step {n i h out x i1 h1 out' i' h'} : x ≤ 255 → i1 ≤ c.length → CT Tryz.prog 128 [curE c i h] [.ptr 1 0 0] (.int .i64 ((x : Nat) : Int)) [curE c i1 h1] → TR c n i1 h1 (out ++ [UInt8.ofNat x]) out' i' h' → TR c (n + 1) i h out out' i' h'
theorem zez (c : Bs) (hc : (c.length : Int) ≤ 1048576) : ∀ (n i : Nat) (h : Int) (out : Bs), i ≤ c.length → ∃ out' i' h', TR c n i h out out' i' h' ∧ out'.length = out.length + n ∧ i' ≤ c.length
 | 0, i, h, out, hi => ⟨out, i, h, .stop, rfl, hi⟩
 | n + 1, i, h, out, hi => by
   obtain ⟨x, i1, h1, hx, hi1, k1⟩ := z2o c i h hc hi
   obtain ⟨out', i', h', ht, hl, hi'⟩ := zez c hc n i1 h1 (out ++ [UInt8.ofNat x]) hi1
   exact ⟨out', i', h', .step hx hi1 k1 ht, by rw [hl]; simp; omega, hi'⟩
theorem zeA (c : Bs) (i : Nat) (h : Int) (n : Nat) (hc : (c.length : Int) ≤ 1048576) (hi : i ≤ c.length) (hn : n ≤ 5000) : ∃ (s : Bs) (i' : Nat) (h' : Int), s.length = n ∧ i' ≤ c.length ∧ CT Tryz.prog 134 [curE c i h] [.ptr 1 0 0, .int .i64 (n : Int)] (.str s) [curE c i' h'] := by
 obtain ⟨s, i', h', ht, hl, hi'⟩ := zez c hc n i h [] hi
 refine ⟨s, i', h', by simpa using hl, hi', z0b z0q 2 rfl Tryz.func134 rfl rfl rfl ?_⟩
 repeat ((try conv => whnf); first | (refine stpQ ?_))
 refine z0K (Nat × Nat × Int × Bs) (fun ⟨k, i, h, out⟩ => ⟨[(0, .ptr 1 0 0), (1, .int .i64 (n : Int)), (5, .ref 2), (6, .int .i64 (k : Int))], [(1, some (curE c i h)), (2, some (.row 1 (z0i out)))], 3⟩) (fun ⟨k, i, h, out⟩ => TR c (n - k) i h out s i' h' ∧ k ≤ n ∧ out.length = k) (fun ⟨k, i, h, out⟩ => n - k) (0, i, h, []) ⟨ht, by omega, rfl⟩ ?_ ?_
 ·(refine z01 (by rfl) ?_ ?_) <;> (repeat' (first | (exact eqA) | (refine shE ?_) | (refine And.intro ?_ ?_))) <;> first | rfl | decide
 ·rintro ⟨k, i, h, out⟩ ⟨hd, hk, hlo⟩
  have hbl := z0s out
  by_cases hlt : k < n
  ·obtain ⟨m, hm⟩ : ∃ m, n - k = m + 1 := ⟨n - k - 1, by omega⟩
   rw [hm] at hd
   cases hd with
   | @step _ _ _ _ x i1 h1 _ _ _ hx hi1 k1 hd' =>
     repeat ((try conv => whnf); first | (refine ccB ([1]) (k1) ?_) | (refine w_u8 ?_) | (refine And.intro (by simp [z0s]; omega) ?_) | (refine stpQ ?_))
     refine ⟨(k + 1, i1, h1, out ++ [UInt8.ofNat x]), ⟨by rw [show n - (k + 1) = m by omega]; exact hd', by omega, by simp; omega⟩, (by show n - (k + 1) < n - k; omega), ?_⟩
     (refine z01 (by rfl) ?_ ?_) <;> (repeat' (first | (exact eqA) | (refine shE ?_) | (refine And.intro ?_ ?_)))
     simp [z0i, z35]
  ·have hz : n - k = 0 := by omega
   rw [hz] at hd
   cases hd with
   | stop =>
     repeat ((try conv => whnf); first | (refine Exists.intro s (And.intro rfl ?_)) | (refine stpQ ?_))
     (refine z02 (by rfl) ?_ ?_ (by rfl)) <;> (repeat' (first | (exact eqA) | (refine shE ?_) | (refine And.intro ?_ ?_)))
theorem ze4 (c : Bs) (i : Nat) (h : Int) (s : Bs) (hc : (c.length : Int) ≤ 1048576) (hi : i ≤ c.length) (hs : (s.length : Int) ≤ 1000000) : ∃ (r : Bs) (i' : Nat) (h' : Int), r.length ≤ s.length + 1 ∧ i' ≤ c.length ∧ CT Tryz.prog 84 [curE c i h] [.ptr 1 0 0, .str s] (.str r) [curE c i' h'] := by
 obtain ⟨x, i1, h1, hx, hi1, k1⟩ := z1F c i h 12 hc hi (by omega)
 by_cases h0 : x = 0
 ·subst h0
  obtain ⟨u, i2, h2, hu, hi2, k2⟩ := zeA c i1 h1 1 hc hi1 (by omega)
  refine ⟨s ++ u, i2, h2, by simp; omega, hi2, z0b z0q 2 rfl Tryz.func84 rfl rfl rfl ?_⟩
  repeat ((try conv => whnf); first | (refine ccB ([1]) (k1) ?_) | (refine ccB ([1]) (k2) ?_) | (refine stpQ ?_))
  (refine z02 (by rfl) ?_ ?_ (by rfl)) <;> (repeat' (first | (exact eqA) | (refine shE ?_) | (refine And.intro ?_ ?_)))
 ·by_cases h01 : x = 1
  ·subst h01
   obtain ⟨m, i2, h2, hm, hi2, k2⟩ := z2z c i1 h1 (s.length + 1) hc hi1 (by omega)
   refine ⟨s.take m, i2, h2, by simp; omega, hi2, z0b z0q 2 rfl Tryz.func84 rfl rfl rfl ?_⟩
   repeat ((try conv => whnf); first | (refine ccB ([1]) (k1) ?_) | (refine ccB ([1]) (k2) ?_) | (refine stpQ ?_))
   (refine z02 (by rfl) ?_ ?_ (by rfl)) <;> (repeat' (first | (exact eqA) | (refine shE ?_) | (refine And.intro ?_ ?_)))
  ·by_cases h23 : (x = 2 ∨ x = 3) ∧ 0 < s.length
   ·obtain ⟨m, i2, h2, hm, hi2, k2⟩ := z2z c i1 h1 s.length hc hi1 (by omega)
    obtain ⟨u, i3, h3, hu, hi3, k3⟩ := zeA c i2 h2 1 hc hi2 (by omega)
    refine ⟨s.take m ++ u ++ s.drop (m + 1), i3, h3, by simp; omega, hi3, z0b z0q 2 rfl Tryz.func84 rfl rfl rfl ?_⟩
    repeat' (first | ((try conv => whnf); first | (refine ccB ([1]) (k1) ?_) | (refine ccB ([1]) (k2) ?_) | (refine ccB ([1]) (k3) ?_) | (refine And.intro (by simp only [List.length_append, List.length_take, List.length_drop]; omega) ?_) | (refine stpQ ?_)) | ((try conv => whnf); first | (refine cb_d (fun h => ?_) (fun h => ?_)) | (refine cb_n (fun h => ?_) (fun h => ?_)) | (refine cb (fun h => ?_) (fun h => ?_))))
    all_goals first
     | (exfalso; omega)
     | ((conv => whnf); refine And.intro ?_ ?_; (simp only [pw, nuOk, List.all_cons, List.all_nil, Bool.and_true]; simp [z8R, z5X, disj]; decide); ((refine z02 (by rfl) ?_ ?_ (by rfl)) <;> (repeat' (first | (exact eqA) | (refine shE ?_) | (refine And.intro ?_ ?_)))))
   ·refine ⟨s, i1, h1, by omega, hi1, z0b z0q 2 rfl Tryz.func84 rfl rfl rfl ?_⟩
    repeat' (first | ((try conv => whnf); first | (refine ccB ([1]) (k1) ?_) | (refine stpQ ?_)) | ((try conv => whnf); first | (refine cb_d (fun h => ?_) (fun h => ?_)) | (refine cb_n (fun h => ?_) (fun h => ?_)) | (refine cb (fun h => ?_) (fun h => ?_))))
    all_goals first
     | (exfalso; omega)
     | ((refine z02 (by rfl) ?_ ?_ (by rfl)) <;> (repeat' (first | (exact eqA) | (refine shE ?_) | (refine And.intro ?_ ?_))))
end Go.Proofs.YtfjbinbpgdiafaaGreatDoor
