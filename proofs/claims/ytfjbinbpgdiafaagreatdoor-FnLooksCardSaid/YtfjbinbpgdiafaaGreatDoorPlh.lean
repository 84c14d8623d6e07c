/- Plain: what a shard makes of letters and of changes. -/
import Derived.Test.YtfjbinbpgdiafaaGreatDoorPlsv
namespace Go.Proofs.YtfjbinbpgdiafaaGreatDoor
set_option linter.unusedVariables false
set_option linter.unusedSimpArgs false
set_option linter.unusedSectionVars false
open Pl
inductive Hr where | no | vote | prep | abort | done | com
def z3w (a : Int) (s : Sv) (ok : Bool) (k t e y : Int) : Hr :=
 if ok = true ∧ t = a + 1 then
  if k = 1 then (if e = (s.ep : Int) + 1 then (if (s.rt : Int) < y then .prep else if y = (s.rt : Int) then .vote else .no) else .no)
  else if k = 3 then (if (s.re : Int) = e ∧ (s.rt : Int) = y then .abort else .no)
  else if k = 4 then (if e ≤ (s.ep : Int) then .done else if (s.re : Int) = e ∧ (s.rt : Int) = y then .com else .no)
  else .no
 else .no
def z2S (s : Sv) (e y : Int) : Hr → List Bs
 | .prep => [2 :: (z03 e.toNat ++ z03 y.toNat ++ z03 s.al.length)]
 | .abort => [4 :: (z03 e.toNat ++ z03 y.toNat)]
 | .com => [3 :: z03 e.toNat]
 | _ => []
def hearR (s : Sv) (e y : Int) : Hr → Rk
 | .prep => .rdy e.toNat y.toNat s.al.length
 | .abort => .rdy 0 0 0
 | .com => .com
 | _ => .no
def z0L (s : Sv) (e y : Int) (h : Hr) : Sv := rkDo s (hearR s e y h)
theorem z1u {a K : Int} {m : Nat} {ts : List Bs} {s : Sv} (h : LogOk a K m ts s) (hm : m ≤ 1000) {k f t e y : Int} {r : Bs} {x : Hr} (hx : z3w a s (z0a k f t e y r) k t e y = x) : LogOk a K (m + 1) (ts ++ z2S s e y x) (z0L s e y x) := by
 have g := h.ok
 have gl := zbo g
 have ga := g.al
 have h0 : LogOk a K (m + 1) (ts ++ []) s := by rw [List.append_nil]; exact h.up (Nat.le_succ m)
 unfold z3w at hx
 by_cases h1 : z0a k f t e y r = true ∧ t = a + 1
 rotate_left
 ·rw [if_neg h1] at hx; subst hx; exact h0
 rw [if_pos h1] at hx
 obtain ⟨_, _, _, hb4, hb5, _⟩ := z2i h1.1
 obtain ⟨e', rfl⟩ : ∃ n : Nat, e = n := ⟨e.toNat, by omega⟩
 obtain ⟨y', rfl⟩ : ∃ n : Nat, y = n := ⟨y.toNat, by omega⟩
 have nums := fun z (hz : z ≤ 1000) => z3o (k := 2) (x := e') (y := y') (z := z) ⟨by omega, by omega, by omega⟩
 by_cases k1 : k = 1
 ·rw [if_pos k1] at hx
  by_cases h2 : (e' : Int) = (s.ep : Int) + 1
  rotate_left
  ·rw [if_neg h2] at hx; subst hx; exact h0
  rw [if_pos h2] at hx
  by_cases h3 : (s.rt : Int) < (y' : Int)
  ·rw [if_pos h3] at hx; subst hx
   exact h.add (k := .rdy e' y' s.al.length) (nums s.al.length (by omega)).1 (zgX (by omega) (by omega) (by omega) ⟨gl, Nat.le_refl _, by omega⟩)
  ·rw [if_neg h3] at hx
   by_cases h4 : (y' : Int) = (s.rt : Int)
   ·rw [if_pos h4] at hx; subst hx; exact h0
   ·rw [if_neg h4] at hx; subst hx; exact h0
 rw [if_neg k1] at hx
 by_cases k3 : k = 3
 ·rw [if_pos k3] at hx
  by_cases h2 : (s.re : Int) = (e' : Int) ∧ (s.rt : Int) = (y' : Int)
  ·rw [if_pos h2] at hx; subst hx
   have n4 := (z3o (k := 4) (x := e') (y := y') (z := 0) ⟨by omega, by omega, by omega⟩).2.1
   exact h.add (k := .rdy 0 0 0) n4 (rk_abo (by omega) (by omega) (by omega) ⟨by omega, by omega⟩)
  ·rw [if_neg h2] at hx; subst hx; exact h0
 rw [if_neg k3] at hx
 by_cases k4 : k = 4
 ·rw [if_pos k4] at hx
  by_cases h5 : (e' : Int) ≤ (s.ep : Int)
  ·rw [if_pos h5] at hx; subst hx; exact h0
  rw [if_neg h5] at hx
  by_cases h2 : (s.re : Int) = (e' : Int) ∧ (s.rt : Int) = (y' : Int)
  ·rw [if_pos h2] at hx; subst hx
   have n4 := (z3o (k := 3) (x := e') (y := y') (z := 0) ⟨by omega, by omega, by omega⟩).2.2
   exact h.add (k := .com) n4 (rk_com (by omega) (by omega) (by omega))
  ·rw [if_neg h2] at hx; subst hx; exact h0
 ·rw [if_neg k4] at hx; subst hx; exact h0
def wtN (s : Sv) : List Ch := s.al.drop (z3f s.tk)
def tkB (a K : Int) (s : Sv) (u : Ch) : Bool := decide ((z18 u.2.1 K : Int) = a) && (decide (idIx s.al u.1 = none) && decide ((wtN s).length < 12))
def tkT (a K : Int) (ts : List Bs) (s : Sv) (u : Ch) : List Bs := if tkB a K s u = true then ts ++ [1 :: z3d u] else ts
def tkS (a K : Int) (s : Sv) (u : Ch) : Sv := if tkB a K s u = true then { s with al := s.al ++ [u] } else s
theorem z5i {a K : Int} {m : Nat} {ts : List Bs} {s : Sv} (h : LogOk a K m ts s) (u : Ch) (hu : z0g u.1 u.2.1 u.2.2 = true) : LogOk a K (m + 1) (tkT a K ts s u) (tkS a K s u) := by
 unfold tkT tkS
 by_cases hb : tkB a K s u = true
 ·rw [if_pos hb, if_pos hb]
  unfold tkB at hb
  simp only [Bool.and_eq_true, decide_eq_true_eq] at hb
  obtain ⟨id, n, v⟩ := u
  have hn : ∃ i : Nat, id = i := by
   simp only [z0g, Bool.and_eq_true, decide_eq_true_eq] at hu
   exact ⟨id.toNat, by omega⟩
  obtain ⟨i, rfl⟩ := hn
  have ht := zbp hu
  have e1 : z3d ((i : Int), n, v) = z0t (i : Int) n v := by
   unfold z3d
   simp only at hu ⊢
   rw [hu]; rfl
  rw [e1]
  exact h.add (k := .all ((i : Int), n, v)) ht (zgV hu hb.1 hb.2.1)
 ·rw [if_neg hb, if_neg hb]
  exact h.up (Nat.le_succ m)
end Go.Proofs.YtfjbinbpgdiafaaGreatDoor
