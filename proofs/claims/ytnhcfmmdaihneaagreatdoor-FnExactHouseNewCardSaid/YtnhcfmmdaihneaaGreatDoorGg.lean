/- Functions by content: rows of strings. Functions by content: proofs are read, by the program and by the reference. -/
import Derived.Test.YtnhcfmmdaihneaaGreatDoorFb
namespace Go.Proofs.YtnhcfmmdaihneaaGreatDoor
set_option linter.unusedVariables false
set_option linter.unusedSimpArgs false
set_option linter.unusedSectionVars false
open Go.RowKit Pl
attribute [local irreducible] z0w z0x z0A AnsP LeP
theorem z0h {k : Nat} (l : List Lf) : ownE (.row k (lvE l)) := by
 intro e he c hc
 simp only [lvE, List.mem_map] at he
 obtain ⟨x, _, rfl⟩ := he
 simp only [List.mem_cons, List.not_mem_nil, or_false] at hc
 rcases hc with rfl | rfl <;> trivial
theorem z0d {k : Nat} (l : List Bs) : ownE (.row k (strE l)) := by
 intro e he c hc
 simp only [strE, List.mem_map] at he
 obtain ⟨x, _, rfl⟩ := he
 simp only [List.mem_cons, List.not_mem_nil, or_false] at hc
 subst hc; trivial
end Go.Proofs.YtnhcfmmdaihneaaGreatDoor
namespace Go.Proofs.YtnhcfmmdaihneaaGreatDoor
set_option maxRecDepth 100000
set_option maxHeartbeats 1000000
set_option linter.unusedVariables false
set_option linter.unusedSimpArgs false
set_option linter.unusedSectionVars false
open Go.RowKit Pl
attribute [local irreducible] z0w z0x z0A AnsP LeP
def HsAt (t : Bs) (w : Nat) (R : List Bs × Nat × Bool) (n : Nat) (s : List Bs) (q : Nat) (b : Bool) : Prop := R = (s ++ (z27 t w n q b).1, (z27 t w n q b).2)
theorem HsAt.step {t : Bs} {w : Nat} {R : List Bs × Nat × Bool} {n : Nat} {s : List Bs} {q : Nat} {b : Bool} (h : HsAt t w R (n + 1) s q b) : HsAt t w R n (s ++ [(z0E t q b w).1]) (z0E t q b w).2.1 (z0E t q b w).2.2 := by
 unfold HsAt at h ⊢; rw [h, z27]; simp
theorem z6t {t : Bs} {w : Nat} : ∀ {n p : Nat} {b : Bool}, p ≤ t.length → (z27 t w n p b).2.1 ≤ t.length
 | 0, p, b, h => h
 | n + 1, p, b, h => by
   show (z27 t w n (z0E t p b w).2.1 (z0E t p b w).2.2).2.1 ≤ _
   exact z6t (z5I h)
theorem z5e {t : Bs} {w : Nat} : ∀ {n p : Nat} {b : Bool}, (z27 t w n p b).1.length = n
 | 0, p, b => rfl
 | n + 1, p, b => by simp [z27, z5e]
theorem z45 (t : Bs) (p : Nat) (b : Bool) (n w : Nat) (ht : (t.length : Int) ≤ 1000000000) (hp : p ≤ t.length) (hn : (n : Int) ≤ 1000000) : CT Tryz.prog 272 [fldB t p b] [.ptr 1 0 0, .int .i64 (n : Int), .int .i64 (w : Int)] (.ref 2) [fldB t (z27 t w n p b).2.1 (z27 t w n p b).2.2, .row 1 (strE (z27 t w n p b).1)] := by
 generalize hR : z27 t w n p b = R
 refine z01 z0L 2 rfl Tryz.func272 rfl rfl rfl ?_
 repeat ((try conv => whnf); first | (refine stpQ ?_))
 refine z0H (Nat × Nat × List Bs × Bool) (fun ⟨k, q, s, bd⟩ => ⟨[(0, .ptr 1 0 0), (2, .int .i64 (w : Int)), (7, .ref 2), (8, .int .i64 (n : Int)), (9, .int .i64 (k : Int))], [(1, some (fldB t q bd)), (2, some (.row 1 (strE s)))], 3⟩) (fun ⟨k, q, s, bd⟩ => k ≤ n ∧ s.length = k ∧ HsAt t w R (n - k) s q bd ∧ q ≤ t.length) (fun ⟨k, q, s, bd⟩ => n - k) (0, p, [], b) ⟨by omega, rfl, by rw [← hR]; rfl, hp⟩ ?_ ?_
 ·(refine z02 (by rfl) ?_ ?_) <;> (repeat' (first | (exact eqA) | (refine shE ?_) | (refine And.intro ?_ ?_))) <;> first | rfl | decide
 ·rintro ⟨k, q, s, bd⟩ ⟨hk, hl, hat, hq⟩
  have hll := z0m s
  by_cases hlt : k < n
  ·obtain ⟨m, hm⟩ : ∃ m, n - k = m + 1 := ⟨n - k - 1, by omega⟩
   rw [hm] at hat
   have c1 := z7l t q bd w ht hq
   have hst := hat.step
   have hle := z5I (n := w) (b := bd) hq
   repeat ((try conv => whnf); first | (refine ccB ([1]) (c1) ?_) | (refine And.intro (by simp [z0m]; omega) ?_) | (refine stpQ ?_))
   refine ⟨(k + 1, (z0E t q bd w).2.1, s ++ [(z0E t q bd w).1], (z0E t q bd w).2.2), ⟨by omega, by simp [hl], by rw [show n - (k + 1) = m by omega]; exact hst, hle⟩, (by show n - (k + 1) < n - k; omega), ?_⟩
   (refine z02 (by rfl) ?_ ?_) <;> (repeat' (first | (exact eqA) | (refine shE ?_) | (refine And.intro ?_ ?_)))
   all_goals (simp [strE]; done)
  ·have hkn : n - k = 0 := by omega
   rw [hkn] at hat
   have e : R = (s, q, bd) := by rw [hat]; simp [z27]
   rw [e]
   repeat ((try conv => whnf); first | (refine stpQ ?_))
   (refine z00 (by rfl) ?_ ?_ (by rfl)) <;> (repeat' (first | (exact eqA) | (refine shE ?_) | (refine And.intro ?_ ?_)))
theorem ziV (w : Int) : CT Tryz.prog 41 [] [.int .i64 w] (.bool (inB w 1 32)) [] := by
 refine z01 z0L 1 rfl Tryz.func41 rfl rfl rfl ?_
 repeat ((try conv => whnf); first | (refine ccA ([]) (c_in _ _ _) ?_) | (refine stpQ ?_))
 (refine z00 (by rfl) ?_ ?_ (by rfl)) <;> repeat' (first | (exact eqA) | (refine shE ?_) | (refine And.intro ?_ ?_))
end Go.Proofs.YtnhcfmmdaihneaaGreatDoor
