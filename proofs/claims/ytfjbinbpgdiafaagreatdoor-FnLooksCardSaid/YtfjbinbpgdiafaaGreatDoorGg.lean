/- Functions by content: rows of strings. Functions by content: proofs are read, by the program and by the reference. -/
import Derived.Test.YtfjbinbpgdiafaaGreatDoorFb
namespace Go.Proofs.YtfjbinbpgdiafaaGreatDoor
set_option linter.unusedVariables false
set_option linter.unusedSimpArgs false
set_option linter.unusedSectionVars false
open Go.RowKit Pl
attribute [local irreducible] z0r z0s z0z AnsP LeP
theorem z16 {k : Nat} (l : List Lf) : ownE (.row k (lvE l)) := by
 intro e he c hc
 simp only [lvE, List.mem_map] at he
 obtain ⟨x, _, rfl⟩ := he
 simp only [List.mem_cons, List.not_mem_nil, or_false] at hc
 rcases hc with rfl | rfl <;> trivial
theorem z1a {k : Nat} (l : List Bs) : ownE (.row k (strE l)) := by
 intro e he c hc
 simp only [strE, List.mem_map] at he
 obtain ⟨x, _, rfl⟩ := he
 simp only [List.mem_cons, List.not_mem_nil, or_false] at hc
 subst hc; trivial
def sAt (l : List Bs) (k : Nat) : Bs := l.getD k []
theorem s_at {l : List Bs} {k : Nat} (h : k < l.length) : sAt l k = l[k] := by simp [sAt, List.getD, List.getElem?_eq_getElem h]
theorem s_get {l : List Bs} {k : Nat} (h : k < l.length) : (strE l)[k]? = some [.str (sAt l k)] := zdH h
theorem s_next (l : List Bs) (k : Nat) (h : k < l.length) : l.take (k + 1) = l.take k ++ [sAt l k] := by
 rw [List.take_add_one, List.getElem?_eq_getElem h, s_at h]; rfl
end Go.Proofs.YtfjbinbpgdiafaaGreatDoor
namespace Go.Proofs.YtfjbinbpgdiafaaGreatDoor
set_option maxRecDepth 100000
set_option maxHeartbeats 400000
set_option linter.unusedVariables false
set_option linter.unusedSimpArgs false
set_option linter.unusedSectionVars false
open Go.RowKit Pl
attribute [local irreducible] z0r z0s z0z AnsP LeP
def HsAt (t : Bs) (w : Nat) (R : List Bs × Nat × Bool) (n : Nat) (s : List Bs) (q : Nat) (b : Bool) : Prop := R = (s ++ (zdp t w n q b).1, (zdp t w n q b).2)
theorem HsAt.step {t : Bs} {w : Nat} {R : List Bs × Nat × Bool} {n : Nat} {s : List Bs} {q : Nat} {b : Bool} (h : HsAt t w R (n + 1) s q b) : HsAt t w R n (s ++ [(z30 t q b w).1]) (z30 t q b w).2.1 (z30 t q b w).2.2 := by
 unfold HsAt at h ⊢; rw [h, zdp]; simp
theorem zbx (w : Int) : CT Tryz.prog 59 [] [.int .i64 w] (.bool (inB w 1 32)) [] := by
 refine z01 z0v 1 rfl Tryz.func59 rfl rfl rfl ?_
 repeat ((try conv => whnf); first | (refine ccA ([]) (c_in _ _ _) ?_) | (refine stpQ ?_))
 (refine z00 (by rfl) ?_ ?_ (by rfl)) <;> repeat' (first | (exact eqA) | (refine shE ?_) | (refine And.intro ?_ ?_))
theorem c_wide (s : List Bs) (w : Int) (hs : (s.length : Int) ≤ 1000000) : CT Tryz.prog 127 [] [.sl 1 (strE s), .int .i64 w] (.bool (z7B s w)) [] := by
 have hlen := z0H s
 refine z01 z0v 1 rfl Tryz.func127 rfl rfl rfl ?_
 repeat ((try conv => whnf); first | (refine stpQ ?_))
 refine z0K Nat (fun k => ⟨[(0, .sl 1 (strE s)), (1, .int .i64 w), (5, .int .i64 (k : Int))], [], 2⟩) (fun k => k ≤ s.length ∧ ∀ x ∈ s.take k, (x.length : Int) = w) (fun k => s.length - k) 0 ⟨by omega, by simp⟩ ?_ ?_
 ·(refine z02 (by rfl) ?_ ?_) <;> repeat' (first | (exact eqA) | (refine shE ?_) | (refine And.intro ?_ ?_))
 ·rintro k ⟨hk, hp⟩
  by_cases hlt : k < s.length
  ·repeat ((try conv => whnf); first | (refine i_at (s_get hlt) ?_) | (refine stpQ ?_))
   ((try conv => whnf); first | (refine cb_d (fun h => ?_) (fun h => ?_)) | (refine cb_n (fun h => ?_) (fun h => ?_)) | (refine cb (fun h => ?_) (fun h => ?_)))
   ·have e : z7B s w = false := by
     have : ¬ (∀ x ∈ s, (x.length : Int) = w) := fun hh => h (by rw [s_at hlt]; exact hh _ (List.getElem_mem hlt))
     rw [z7B, Bool.and_eq_false_iff]
     left
     rw [List.all_eq_false]
     exact ⟨s[k], List.getElem_mem hlt, by rw [s_at hlt] at h; simpa using h⟩
    rw [e]
    repeat ((try conv => whnf); first | (refine stpQ ?_))
    (refine z00 (by rfl) ?_ ?_ (by rfl)) <;> repeat' (first | (exact eqA) | (refine shE ?_) | (refine And.intro ?_ ?_))
   ·repeat ((try conv => whnf); first | (refine stpQ ?_))
    refine ⟨k + 1, ⟨by omega, fun x hx => ?_⟩, by omega, ?_⟩
    ·rw [s_next s k hlt, List.mem_append, List.mem_singleton] at hx
     rcases hx with hx | rfl
     ·exact hp x hx
     ·exact h
    ·(refine z02 (by rfl) ?_ ?_) <;> repeat' (first | (exact eqA) | (refine shE ?_) | (refine And.intro ?_ ?_))
  ·obtain rfl : k = s.length := by omega
   rw [List.take_length] at hp
   have e : z7B s w = inB w 1 32 := by
    rw [z7B, List.all_eq_true.2 (fun x hx => by simpa using hp x hx), Bool.true_and]
   rw [e]
   repeat ((try conv => whnf); first | (refine ccA ([]) (z13 _ _ _) ?_) | (refine stpQ ?_))
   (refine z00 (by rfl) ?_ ?_ (by rfl)) <;> repeat' (first | (exact eqA) | (refine shE ?_) | (refine And.intro ?_ ?_))
end Go.Proofs.YtfjbinbpgdiafaaGreatDoor
