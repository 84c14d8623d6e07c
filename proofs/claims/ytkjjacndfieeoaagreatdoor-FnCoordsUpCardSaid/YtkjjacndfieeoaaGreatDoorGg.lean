/- Functions by content: rows of strings. Functions by content: proofs are read, by the program and by the reference. -/
import Derived.Test.YtkjjacndfieeoaaGreatDoorFb
namespace Go.Proofs.YtkjjacndfieeoaaGreatDoor
set_option linter.unusedVariables false
set_option linter.unusedSimpArgs false
set_option linter.unusedSectionVars false
open Go.RowKit Pl
attribute [local irreducible] z0m z0n z0q AnsP LeP
theorem z21 {k : Nat} (l : List Lf) : ownE (.row k (lvE l)) := by
 intro e he c hc
 simp only [lvE, List.mem_map] at he
 obtain ⟨x, _, rfl⟩ := he
 simp only [List.mem_cons, List.not_mem_nil, or_false] at hc
 rcases hc with rfl | rfl <;> trivial
theorem z1B {k : Nat} (l : List Bs) : ownE (.row k (strE l)) := by
 intro e he c hc
 simp only [strE, List.mem_map] at he
 obtain ⟨x, _, rfl⟩ := he
 simp only [List.mem_cons, List.not_mem_nil, or_false] at hc
 subst hc; trivial
def sAt (l : List Bs) (k : Nat) : Bs := l.getD k []
theorem s_at {l : List Bs} {k : Nat} (h : k < l.length) : sAt l k = l[k] := by simp [sAt, List.getD, List.getElem?_eq_getElem h]
theorem s_get {l : List Bs} {k : Nat} (h : k < l.length) : (strE l)[k]? = some [.str (sAt l k)] := ziw h
theorem s_next (l : List Bs) (k : Nat) (h : k < l.length) : l.take (k + 1) = l.take k ++ [sAt l k] := by
 rw [List.take_add_one, List.getElem?_eq_getElem h, s_at h]; rfl
end Go.Proofs.YtkjjacndfieeoaaGreatDoor
namespace Go.Proofs.YtkjjacndfieeoaaGreatDoor
set_option maxRecDepth 100000
set_option maxHeartbeats 1000000
set_option linter.unusedVariables false
set_option linter.unusedSimpArgs false
set_option linter.unusedSectionVars false
open Go.RowKit Pl
attribute [local irreducible] z0m z0n z0q AnsP LeP
def HsAt (t : Bs) (w : Nat) (R : List Bs × Nat × Bool) (n : Nat) (s : List Bs) (q : Nat) (b : Bool) : Prop := R = (s ++ (z1M t w n q b).1, (z1M t w n q b).2)
theorem HsAt.step {t : Bs} {w : Nat} {R : List Bs × Nat × Bool} {n : Nat} {s : List Bs} {q : Nat} {b : Bool} (h : HsAt t w R (n + 1) s q b) : HsAt t w R n (s ++ [(z0w t q b w).1]) (z0w t q b w).2.1 (z0w t q b w).2.2 := by
 unfold HsAt at h ⊢; rw [h, z1M]; simp
theorem z5q {t : Bs} {w : Nat} : ∀ {n p : Nat} {b : Bool}, p ≤ t.length → (z1M t w n p b).2.1 ≤ t.length
 | 0, p, b, h => h
 | n + 1, p, b, h => by
   show (z1M t w n (z0w t p b w).2.1 (z0w t p b w).2.2).2.1 ≤ _
   exact z5q (z4O h)
theorem z4l {t : Bs} {w : Nat} : ∀ {n p : Nat} {b : Bool}, (z1M t w n p b).1.length = n
 | 0, p, b => rfl
 | n + 1, p, b => by simp [z1M, z4l]
theorem z3t (t : Bs) (p : Nat) (b : Bool) (n w : Nat) (ht : (t.length : Int) ≤ 1000000000) (hp : p ≤ t.length) (hn : (n : Int) ≤ 1000000) : CT Tryz.prog 196 [fldB t p b] [.ptr 1 0 0, .int .i64 (n : Int), .int .i64 (w : Int)] (.ref 2) [fldB t (z1M t w n p b).2.1 (z1M t w n p b).2.2, .row 1 (strE (z1M t w n p b).1)] := by
 generalize hR : z1M t w n p b = R
 refine z01 z0A 2 rfl Tryz.func196 rfl rfl rfl ?_
 repeat ((try conv => whnf); first | (refine stpQ ?_))
 refine z1L (Nat × Nat × List Bs × Bool) (fun ⟨k, q, s, bd⟩ => ⟨[(0, .ptr 1 0 0), (2, .int .i64 (w : Int)), (7, .ref 2), (8, .int .i64 (n : Int)), (9, .int .i64 (k : Int))], [(1, some (fldB t q bd)), (2, some (.row 1 (strE s)))], 3⟩) (fun ⟨k, q, s, bd⟩ => k ≤ n ∧ s.length = k ∧ HsAt t w R (n - k) s q bd ∧ q ≤ t.length) (fun ⟨k, q, s, bd⟩ => n - k) (0, p, [], b) ⟨by omega, rfl, by rw [← hR]; rfl, hp⟩ ?_ ?_
 ·(refine z02 (by rfl) ?_ ?_) <;> (repeat' (first | (exact eqA) | (refine shE ?_) | (refine And.intro ?_ ?_))) <;> first | rfl | decide
 ·rintro ⟨k, q, s, bd⟩ ⟨hk, hl, hat, hq⟩
  have hll := z0d s
  by_cases hlt : k < n
  ·obtain ⟨m, hm⟩ : ∃ m, n - k = m + 1 := ⟨n - k - 1, by omega⟩
   rw [hm] at hat
   have c1 := z6m t q bd w ht hq
   have hst := hat.step
   have hle := z4O (n := w) (b := bd) hq
   repeat ((try conv => whnf); first | (refine ccB ([1]) (c1) ?_) | (refine And.intro (by simp [z0d]; omega) ?_) | (refine stpQ ?_))
   refine ⟨(k + 1, (z0w t q bd w).2.1, s ++ [(z0w t q bd w).1], (z0w t q bd w).2.2), ⟨by omega, by simp [hl], by rw [show n - (k + 1) = m by omega]; exact hst, hle⟩, (by show n - (k + 1) < n - k; omega), ?_⟩
   (refine z02 (by rfl) ?_ ?_) <;> (repeat' (first | (exact eqA) | (refine shE ?_) | (refine And.intro ?_ ?_)))
   all_goals (simp [strE]; done)
  ·have hkn : n - k = 0 := by omega
   rw [hkn] at hat
   have e : R = (s, q, bd) := by rw [hat]; simp [z1M]
   rw [e]
   repeat ((try conv => whnf); first | (refine stpQ ?_))
   (refine z00 (by rfl) ?_ ?_ (by rfl)) <;> (repeat' (first | (exact eqA) | (refine shE ?_) | (refine And.intro ?_ ?_)))
theorem zco (w : Int) : CT Tryz.prog 148 [] [.int .i64 w] (.bool (inB w 1 32)) [] := by
 refine z01 z0A 1 rfl Tryz.func148 rfl rfl rfl ?_
 repeat ((try conv => whnf); first | (refine ccA ([]) (c_in _ _ _) ?_) | (refine stpQ ?_))
 (refine z00 (by rfl) ?_ ?_ (by rfl)) <;> repeat' (first | (exact eqA) | (refine shE ?_) | (refine And.intro ?_ ?_))
theorem c_wide (s : List Bs) (w : Int) (hs : (s.length : Int) ≤ 1000000) : CT Tryz.prog 82 [] [.sl 1 (strE s), .int .i64 w] (.bool (wideB s w)) [] := by
 have hlen := z0d s
 refine z01 z0A 1 rfl Tryz.func82 rfl rfl rfl ?_
 repeat ((try conv => whnf); first | (refine stpQ ?_))
 refine z1L Nat (fun k => ⟨[(0, .sl 1 (strE s)), (1, .int .i64 w), (5, .int .i64 (k : Int))], [], 2⟩) (fun k => k ≤ s.length ∧ ∀ x ∈ s.take k, (x.length : Int) = w) (fun k => s.length - k) 0 ⟨by omega, by simp⟩ ?_ ?_
 ·(refine z02 (by rfl) ?_ ?_) <;> repeat' (first | (exact eqA) | (refine shE ?_) | (refine And.intro ?_ ?_))
 ·rintro k ⟨hk, hp⟩
  by_cases hlt : k < s.length
  ·repeat ((try conv => whnf); first | (refine i_at (s_get hlt) ?_) | (refine stpQ ?_))
   ((try conv => whnf); first | (refine cb_d (fun h => ?_) (fun h => ?_)) | (refine cb_n (fun h => ?_) (fun h => ?_)) | (refine cb (fun h => ?_) (fun h => ?_)))
   ·have e : wideB s w = false := by
     have : ¬ (∀ x ∈ s, (x.length : Int) = w) := fun hh => h (by rw [s_at hlt]; exact hh _ (List.getElem_mem hlt))
     rw [wideB, Bool.and_eq_false_iff]
     left
     rw [List.all_eq_false]
     exact ⟨s[k], List.getElem_mem hlt, by rw [s_at hlt] at h; simpa using h⟩
    rw [e]
    repeat ((try conv => whnf); first | (refine stpQ ?_))
    (refine z00 (by rfl) ?_ ?_ (by rfl)) <;> repeat' (first | (exact eqA) | (refine shE ?_) | (refine And.intro ?_ ?_))
   ·repeat ((try conv => whnf); first | (refine stpQ ?_))
    refine ⟨k + 1, ⟨by omega, fun x hx => ?_⟩, by omega, ?_⟩
    ·rw [s_next s k hlt, List.mem_append, List.mem_singleton] at hx
     rcases hx with hx | rfl
     ·exact hp x hx
     ·exact h
    ·(refine z02 (by rfl) ?_ ?_) <;> repeat' (first | (exact eqA) | (refine shE ?_) | (refine And.intro ?_ ?_))
  ·obtain rfl : k = s.length := by omega
   rw [List.take_length] at hp
   have e : wideB s w = inB w 1 32 := by
    rw [wideB, List.all_eq_true.2 (fun x hx => by simpa using hp x hx), Bool.true_and]
   rw [e]
   repeat ((try conv => whnf); first | (refine ccA ([]) (z0U _ _ _) ?_) | (refine stpQ ?_))
   (refine z00 (by rfl) ?_ ?_ (by rfl)) <;> repeat' (first | (exact eqA) | (refine shE ?_) | (refine And.intro ?_ ?_))
end Go.Proofs.YtkjjacndfieeoaaGreatDoor
