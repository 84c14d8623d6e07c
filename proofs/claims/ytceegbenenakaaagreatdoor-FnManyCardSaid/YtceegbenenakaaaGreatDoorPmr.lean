/- Plain: the proof of many that entries give, and the root that it leads to. -/
import Derived.Test.YtceegbenenakaaaGreatDoorPmt
namespace Go.Proofs.YtceegbenenakaaaGreatDoor
set_option linter.unusedVariables false
set_option linter.unusedSimpArgs false
set_option linter.unusedSectionVars false
open Go.RowKit Pl
def sdL (l : List Lf) (w d : Nat) : List Nat → List Bs
 | [] => []
 | [p] => [z0f l w d (x1 p)]
 | p :: q :: r => if p % 2 = 0 ∧ q = p + 1 then sdL l w d r else z0f l w d (x1 p) :: sdL l w d (q :: r)
def sdA (l : List Lf) (w : Nat) : Nat → Nat → List Nat → List Bs
 | 0, _, _ => []
 | n + 1, d, L => sdL l w d L ++ sdA l w n (d + 1) (lvUp L)
theorem z8h (l : List Lf) (w d : Nat) : ∀ L : List Nat, (sdL l w d L).length = lvNd L
 | [] => rfl
 | [_] => rfl
 | p :: q :: r => by
   have h1 := z8h l w d r
   have h2 := z8h l w d (q :: r)
   rw [sdL, lvNd]
   split
   ·exact h1
   ·rw [List.length_cons, h2]
theorem z8i (l : List Lf) (w : Nat) : ∀ (n d : Nat) (L : List Nat), (sdA l w n d L).length = z25 n L
 | 0, d, L => rfl
 | n + 1, d, L => by rw [sdA, z25, List.length_append, z8h, z8i l w n]
theorem z6q {l : List Lf} {w d : Nat} (h : w ≤ 32) : ∀ (L : List Nat), ∀ s ∈ sdL l w d L, s.length = w
 | [], s, hs => by cases hs
 | [p], s, hs => by
   rw [sdL, List.mem_singleton] at hs
   subst hs; exact z1T h _ _
 | p :: q :: r, s, hs => by
   rw [sdL] at hs
   split at hs
   ·exact z6q h r s hs
   ·rcases List.mem_cons.1 hs with rfl | hs
    ·exact z1T h _ _
    ·exact z6q h (q :: r) s hs
theorem z6r {l : List Lf} {w : Nat} (h : w ≤ 32) : ∀ (n d : Nat) (L : List Nat), ∀ s ∈ sdA l w n d L, s.length = w
 | 0, d, L, s, hs => by cases hs
 | n + 1, d, L, s, hs => by
   rw [sdA] at hs
   rcases List.mem_append.1 hs with hs | hs
   ·exact z6q h _ s hs
   ·exact z6r h n _ _ s hs
theorem z9r {l : List Lf} {w d : Nat} {L : List Nat} {k : Nat} (h : k + 1 < L.length) (h0 : L[k] % 2 = 0) (h1 : L[k + 1] = L[k] + 1) : sdL l w d (L.drop k) = sdL l w d (L.drop (k + 2)) := by
 rw [zcE h, sdL, if_pos ⟨h0, h1⟩]
theorem zbL {l : List Lf} {w d : Nat} {L : List Nat} {k : Nat} (h : k < L.length) (hn : ∀ h2 : k + 1 < L.length, ¬ (L[k] % 2 = 0 ∧ L[k + 1] = L[k] + 1)) : sdL l w d (L.drop k) = z0f l w d (x1 L[k]) :: sdL l w d (L.drop (k + 1)) := by
 by_cases h2 : k + 1 < L.length
 ·rw [zcE h2, sdL, if_neg (hn h2), List.drop_eq_getElem_cons h2]
 ·rw [List.drop_eq_getElem_cons h, List.drop_eq_nil_of_le (by omega), sdL, sdL]
theorem zbM {l : List Lf} {w d p : Nat} (h : p % 2 = 0) : z1H 3 [z0f l w d p, z0f l w d (x1 p)] w = z0f l w (d + 1) (p / 2) := by
 rw [z5B, x1, if_pos h, show 2 * (p / 2) = p by omega]
theorem up_odd {l : List Lf} {w d p : Nat} (h : ¬ p % 2 = 0) : z1H 3 [z0f l w d (x1 p), z0f l w d p] w = z0f l w (d + 1) (p / 2) := by
 rw [z5B, x1, if_neg h, show 2 * (p / 2) = p - 1 by omega, show p - 1 + 1 = p by omega]
theorem z6s {n : Nat} : ∀ (L : List Nat), (∀ x ∈ L, x < 2 ^ (n + 1)) → ∀ y ∈ lvUp L, y < 2 ^ n
 | [], h, y, hy => by cases hy
 | [p], h, y, hy => by
   rw [lvUp, List.mem_singleton] at hy
   have := h p (by simp)
   rw [Nat.pow_succ] at this
   omega
 | p :: q :: l, h, y, hy => by
   have hp := h p (by simp)
   rw [Nat.pow_succ] at hp
   rw [lvUp] at hy
   split at hy
   ·rcases List.mem_cons.1 hy with rfl | hy
    ·omega
    ·exact z6s l (fun x hx => h x (by simp [hx])) y hy
   ·rcases List.mem_cons.1 hy with rfl | hy
    ·omega
    ·exact z6s (q :: l) (fun x hx => h x (List.mem_cons_of_mem _ hx)) y hy
theorem zcN {L : List Nat} (h : Ups L) (hn : L ≠ []) (h1 : ∀ x ∈ L, x < 1) : L = [0] := by
 cases L with
 | nil => exact absurd rfl hn
 | cons a r =>
   have ha := h1 a (by simp)
   cases r with
   | nil => rw [show a = 0 by omega]
   | cons b s =>
     have hb := h1 b (by simp)
     have := (List.pairwise_cons.1 h).1 b (by simp)
     omega
def mnB (l : List Lf) (names : List Bs) : List (List Lf) := (ixsN names).map fun (p : Nat) => z0h l (p : Int)
def mnS (l : List Lf) (names : List Bs) (w : Nat) : List Bs := sdA l w 8 0 (ixsN names)
theorem z3S (l : List Lf) (p : Int) : z0h (z0h l p) p = z0h l p := by
 unfold z0h
 rw [List.filter_filter]
 apply List.filter_congr
 intro x _
 simp
theorem z4X (l : List Lf) (names : List Bs) : (mnB l names).length = (ixsN names).length := by simp [mnB]
theorem mnB_ok {l : List Lf} (h : leavesOk l = true) (names : List Bs) : ∀ b ∈ mnB l names, leavesOk b = true := fun b hb => by
 simp only [mnB, List.mem_map] at hb
 obtain ⟨p, _, rfl⟩ := hb
 exact wh.bucket_ok h
theorem z3I {l : List Lf} {names : List Bs} {w : Nat} (h : leavesOk l = true) (hn : z1v names = true) (hw : 1 ≤ w ∧ w ≤ 32) : z3W names (mnB l names) (mnS l names w) (w : Int) = true := by
 have h1 : bksB (mnB l names) (ixsN names) = true := by
  simp only [bksB, List.all_eq_true, List.mem_range, Bool.and_eq_true, decide_eq_true_eq]
  intro i hi
  have hk : i < (ixsN names).length := by rw [← z4X l names]; exact hi
  have e1 : (mnB l names).getD i [] = z0h l ((ixsN names)[i] : Int) := by simp [mnB, List.getD, List.getElem?_eq_getElem hk]
  have e2 : (ixsN names).getD i 0 = (ixsN names)[i] := by simp [List.getD, List.getElem?_eq_getElem hk]
  rw [e1, e2, z3S]
  exact ⟨wh.bucket_ok h, rfl⟩
 have h2 : ((mnS l names w).all fun x => decide ((x.length : Int) = (w : Int))) = true := by
  rw [List.all_eq_true]
  intro x hx
  have := z6r hw.2 8 0 _ x hx
  exact decide_eq_true (by omega)
 unfold z3W
 rw [hn, h1, h2, z1g.2 (show (1 : Int) ≤ (w : Int) ∧ (w : Int) ≤ 32 by omega), decide_eq_true (z4X l names), decide_eq_true (show (mnS l names w).length = z25 8 (ixsN names) from z8i l w 8 0 _)]
 rfl
end Go.Proofs.YtceegbenenakaaaGreatDoor
