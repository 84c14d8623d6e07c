/- Functions by content: the law of HouseNew. -/
import Derived.Test.YtnhcfmmdaihneaaGreatDoorWfc
import Derived.Test.YtnhcfmmdaihneaaGreatDoorMh
import Derived.Test.YtnhcfmmdaihneaaGreatDoorHn
namespace Go.Proofs.YtnhcfmmdaihneaaGreatDoor
set_option linter.unusedVariables false
set_option linter.unusedSimpArgs false
set_option linter.unusedSectionVars false
open Go.RowKit Pl
theorem wf_svD (k n : Nat) : WfSv (svD k n) := fun e he => by
 simp only [svD, List.mem_map] at he
 obtain ⟨i, _, rfl⟩ := he
 refine ⟨_, _, _, _, _, _, _, _, _, _, _, rfl, (fun e h => by cases h), (by simp), (fun e h => ?_), (by simp), (fun e h => ?_), (by simp), (fun e h => by cases h), (by simp)⟩
 ·rw [List.mem_singleton] at h
  subst h
  exact ⟨_, rfl, (fun e h => by cases h), (by simp)⟩
 ·rw [List.mem_singleton] at h
  subst h
  exact ⟨_, rfl⟩
theorem zk4 (k : Nat) : ∀ n, cnG szSv (svD k n) = 8 * n
 | 0 => rfl
 | n + 1 => by
   rw [zdZ, z9m, zk4 k n]
   show 8 * n + (8 + 0) = _
   omega
theorem zli (k n : Nat) (hk : k ≤ 2) (hn : n ≤ 4) : (svR1 k n).length ≤ 1048576 ∧ ∀ e ∈ svR1 k n, Fits 1048576 z2l e := ⟨by rw [ze0]; omega, fun e he => by
 simp only [svR1, List.mem_map, List.mem_range] at he
 obtain ⟨i, hi, rfl⟩ := he
 refine zgi (by omega) (by omega) trivial ⟨by simp, (fun e h => by cases h)⟩ (by omega) ⟨by simp, fun e h => ?_⟩ ⟨by simp, fun e h => ?_⟩ ⟨by simp, (fun e h => by cases h)⟩ (by omega) (by omega) (by omega)
 ·rw [List.mem_singleton] at h
  subst h
  exact ⟨_, rfl, (by simp), (fun e h => by cases h)⟩
 ·rw [List.mem_singleton] at h
  subst h
  exact ⟨_, rfl, by omega, by omega⟩⟩
theorem fit_em (n : Nat) (hn : n ≤ 4) : (emV n).length ≤ 1048576 ∧ ∀ e ∈ emV n, Fits 1048576 .str e := ⟨by simp [emV]; omega, fun e he => by
 rw [(List.mem_replicate.1 he).2]; exact ⟨_, rfl, by simp⟩⟩
theorem fit_ed (n : Nat) (hn : n ≤ 4) : (emD n).length ≤ 1048576 ∧ ∀ e ∈ emD n, Fits 1048576 .bool e := ⟨by simp [emD]; omega, fun e he => by
 rw [(List.mem_replicate.1 he).2]; exact ⟨_, rfl⟩⟩
theorem z1Y (s : Shp) : ([] : List (List T)).length ≤ 1048576 ∧ ∀ e ∈ ([] : List (List T)), Fits 1048576 s e := ⟨by simp, (fun e h => by cases h)⟩
theorem z9A (a K : Int) (ha : -9223372036854775808 ≤ a ∧ a ≤ 9223372036854775807) (hK : -9223372036854775808 ≤ K ∧ K ≤ 9223372036854775807) : CT Tryz.prog 6 [] [.int .i64 a, .int .i64 K] (.bool true) [] := by
 by_cases h : isHo a ∧ isHo K
 ·obtain ⟨h1, h2⟩ := h
  obtain ⟨no, rfl, hno, -⟩ := z3x h1
  obtain ⟨k, rfl, hk, -⟩ := z3x h2
  have e2 := (zjf hk).2
  have lP := z1D (z2U no) 16
  have hP := zaV (l := z1c (z2U no) 16) (N := 1048576) (by omega) (fun x hx => by have := z5K x hx; omega)
  refine z7z _ _ (no : Int) (k : Int) true true (strE (z1c (z2U no) 16)) (emV (2 ^ k)) (emD (2 ^ k)) (svD k (2 ^ k)) (svR1 k (2 ^ k)) (z3D _) (zhg _) (zhh _) (wf_svD _ _) ?_ ?_ ?_ ?_ ?_ (zca _) (zjY _) (zjZ _) (uc_svD _ _) ?_ (zba no hno k hk) (zcy no hno k hk)
  ·rw [z0m]; omega
  ·simp only [emV, List.length_replicate]; omega
  ·simp only [emD, List.length_replicate]; omega
  ·rw [zhE]; omega
  ·rw [zk4]; omega
  ·exact zdx (by omega) (by omega) trivial (z1Y _) hP (z1Y _) (z1Y _) (by omega) trivial (fit_em _ e2) (fit_ed _ e2) (zli k _ hk e2) (z1Y _) (z1Y _)
 ·have h' : ¬ isHo a ∨ ¬ isHo K := by
   by_cases h1 : isHo a
   ·exact .inr fun h2 => h ⟨h1, h2⟩
   ·exact .inl h1
  have n0 : ∀ e ∈ ([] : List (List T)), False := fun e h => by cases h
  refine z7z _ _ 0 0 false false [] [] [] [] [] (fun e h => (n0 e h).elim) (fun e h => (n0 e h).elim) (fun e h => (n0 e h).elim) (fun e h => (n0 e h).elim) (by decide) (by decide) (by decide) (by decide) (by decide) (by simp [ucE]) (by simp [ucE]) (by simp [ucE]) (by simp [ucE]) ?_ (z9z a K h') (zbe a K h')
  exact zdx (by omega) (by omega) trivial (z1Y _) (z1Y _) (z1Y _) (z1Y _) (by omega) trivial (z1Y _) (z1Y _) (z1Y _) (z1Y _) (z1Y _)
end Go.Proofs.YtnhcfmmdaihneaaGreatDoor
