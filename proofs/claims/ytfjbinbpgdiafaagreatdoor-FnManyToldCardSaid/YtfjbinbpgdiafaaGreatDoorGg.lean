/- Functions by content: rows of strings. Functions by content: proofs are read, by the program and by the reference. -/
import Derived.Test.YtfjbinbpgdiafaaGreatDoorFb
namespace Go.Proofs.YtfjbinbpgdiafaaGreatDoor
set_option linter.unusedVariables false
set_option linter.unusedSimpArgs false
set_option linter.unusedSectionVars false
open Go.RowKit Pl
attribute [local irreducible] z0t z0u z0A AnsP LeP
def sAt (l : List Bs) (k : Nat) : Bs := l.getD k []
theorem s_at {l : List Bs} {k : Nat} (h : k < l.length) : sAt l k = l[k] := by simp [sAt, List.getD, List.getElem?_eq_getElem h]
theorem s_get {l : List Bs} {k : Nat} (h : k < l.length) : (strE l)[k]? = some [.str (sAt l k)] := zcx h
theorem s_next (l : List Bs) (k : Nat) (h : k < l.length) : l.take (k + 1) = l.take k ++ [sAt l k] := by
 rw [List.take_add_one, List.getElem?_eq_getElem h, s_at h]; rfl
end Go.Proofs.YtfjbinbpgdiafaaGreatDoor
namespace Go.Proofs.YtfjbinbpgdiafaaGreatDoor
set_option maxRecDepth 100000
set_option maxHeartbeats 400000
set_option linter.unusedVariables false
set_option linter.unusedSimpArgs false
set_option linter.unusedSectionVars false
open Go.RowKit Pl
attribute [local irreducible] z0t z0u z0A AnsP LeP
theorem z4l {sh : Sh} {t : Bs} (hs : ∀ p b, p ≤ t.length → (sh p b).2.1 ≤ t.length ∧ (sh p b).1.length ≤ 20000) : ∀ (n p : Nat) (b : Bool), p ≤ t.length → (z0F sh n p b).1.length ≤ n ∧ ∀ x ∈ (z0F sh n p b).1, x.1.length ≤ 20000 ∧ x.2.length ≤ 20000
 | 0, p, b, _ => by simp [z0F]
 | n + 1, p, true, _ => by simp [z0F]
 | n + 1, p, false, hp => by
   have a := hs p false hp
   have b := hs _ (sh p false).2.2 a.1
   have ih := z4l hs n _ (sh (sh p false).2.1 (sh p false).2.2).2.2 b.1
   refine ⟨by simp only [z0F, List.length_cons]; omega, fun x hx => ?_⟩
   simp only [z0F, List.mem_cons] at hx
   rcases hx with rfl | hx
   ·exact ⟨a.2, b.2⟩
   ·exact ih.2 x hx
theorem sml_of {l : List Lf} (h1 : (l.length : Int) ≤ 1000) (h2 : ∀ x ∈ l, x.1.length ≤ 20000 ∧ x.2.length ≤ 20000) : Sml l := by
 refine ⟨h1, fun i => ?_⟩
 rcases Nat.lt_or_ge i l.length with hl | hl
 ·have := h2 _ (List.getElem_mem hl)
  rw [z84 hl]; omega
 ·simp [lfAt, List.getD, List.getElem?_eq_none hl]
theorem z99 {t : Bs} {p : Nat} {b : Bool} (hp : p ≤ t.length) : Sml (z2y t p b).1 := by
 have h := z4l (sh := z1a t) (fun p b hp => z5i hp) (min (numS t p b).1 30) _ (numS t p b).2.2 (z5h (bad := b) hp).1
 exact sml_of (by have := h.1; simp only [z2y]; omega) h.2
def HsAt (t : Bs) (w : Nat) (R : List Bs × Nat × Bool) (n : Nat) (s : List Bs) (q : Nat) (b : Bool) : Prop := R = (s ++ (zcg t w n q b).1, (zcg t w n q b).2)
theorem HsAt.step {t : Bs} {w : Nat} {R : List Bs × Nat × Bool} {n : Nat} {s : List Bs} {q : Nat} {b : Bool} (h : HsAt t w R (n + 1) s q b) : HsAt t w R n (s ++ [(z0z t q b w).1]) (z0z t q b w).2.1 (z0z t q b w).2.2 := by
 unfold HsAt at h ⊢; rw [h, zcg]; simp
theorem z3L (w : Int) : CT Tryz.prog 59 [] [.int .i64 w] (.bool (inB w 1 32)) [] := by
 refine z0b z0q 1 rfl Tryz.func59 rfl rfl rfl ?_
 repeat ((try conv => whnf); first | (refine ccA ([]) (c_in _ _ _) ?_) | (refine stpQ ?_))
 (refine z02 (by rfl) ?_ ?_ (by rfl)) <;> repeat' (first | (exact eqA) | (refine shE ?_) | (refine And.intro ?_ ?_))
theorem c_wide (s : List Bs) (w : Int) (hs : (s.length : Int) ≤ 1000000) : CT Tryz.prog 127 [] [.sl 1 (strE s), .int .i64 w] (.bool (wideB s w)) [] := by
 have hlen := z0h s
 refine z0b z0q 1 rfl Tryz.func127 rfl rfl rfl ?_
 repeat ((try conv => whnf); first | (refine stpQ ?_))
 refine z0K Nat (fun k => ⟨[(0, .sl 1 (strE s)), (1, .int .i64 w), (5, .int .i64 (k : Int))], [], 2⟩) (fun k => k ≤ s.length ∧ ∀ x ∈ s.take k, (x.length : Int) = w) (fun k => s.length - k) 0 ⟨by omega, by simp⟩ ?_ ?_
 ·(refine z01 (by rfl) ?_ ?_) <;> repeat' (first | (exact eqA) | (refine shE ?_) | (refine And.intro ?_ ?_))
 ·rintro k ⟨hk, hp⟩
  by_cases hlt : k < s.length
  ·repeat ((try conv => whnf); first | (refine i_at (s_get hlt) ?_) | (refine stpQ ?_))
   ((try conv => whnf); first | (refine cb_d (fun h => ?_) (fun h => ?_)) | (refine cb_n (fun h => ?_) (fun h => ?_)) | (refine cb (fun h => ?_) (fun h => ?_)))
   ·have e : wideB s w = false := by
     have : ¬ (∀ x ∈ s, (x.length : Int) = w) := fun hh => h (by rw [s_at hlt]; exact hh _ (List.getElem_mem hlt))
     rw [wideB, Bool.and_eq_false_iff]
     left
     rw [List.all_eq_false]
     exact ⟨s[k], List.getElem_mem hlt, by rw [s_at hlt] at h; simpa using h⟩
    rw [e]
    repeat ((try conv => whnf); first | (refine stpQ ?_))
    (refine z02 (by rfl) ?_ ?_ (by rfl)) <;> repeat' (first | (exact eqA) | (refine shE ?_) | (refine And.intro ?_ ?_))
   ·repeat ((try conv => whnf); first | (refine stpQ ?_))
    refine ⟨k + 1, ⟨by omega, fun x hx => ?_⟩, by omega, ?_⟩
    ·rw [s_next s k hlt, List.mem_append, List.mem_singleton] at hx
     rcases hx with hx | rfl
     ·exact hp x hx
     ·exact h
    ·(refine z01 (by rfl) ?_ ?_) <;> repeat' (first | (exact eqA) | (refine shE ?_) | (refine And.intro ?_ ?_))
  ·obtain rfl : k = s.length := by omega
   rw [List.take_length] at hp
   have e : wideB s w = inB w 1 32 := by
    rw [wideB, List.all_eq_true.2 (fun x hx => by simpa using hp x hx), Bool.true_and]
   rw [e]
   repeat ((try conv => whnf); first | (refine ccA ([]) (z2N _ _ _) ?_) | (refine stpQ ?_))
   (refine z02 (by rfl) ?_ ?_ (by rfl)) <;> repeat' (first | (exact eqA) | (refine shE ?_) | (refine And.intro ?_ ?_))
end Go.Proofs.YtfjbinbpgdiafaaGreatDoor
