/- Functions by content: changes: their tests, texts, readers, and how they are applied. Changes: both readers agree; what is read back. Plain: disks, files of framed records, and what a shard makes of a record. -/
import Derived.Test.YtkjjacndfieeoaaGreatDoorFb
import Derived.Test.YtkjjacndfieeoaaGreatDoorOld
import Derived.Test.YtkjjacndfieeoaaGreatDoorFc
import Derived.Test.YtkjjacndfieeoaaGreatDoorPlainM
namespace Go.Proofs.YtkjjacndfieeoaaGreatDoor
set_option linter.unusedVariables false
set_option linter.unusedSimpArgs false
set_option linter.unusedSectionVars false
open Go.RowKit Pl
attribute [local irreducible] z0m z0n z0q AnsP LeP
theorem z21 {k : Nat} (l : List Lf) : ownE (.row k (lvE l)) := by
 intro e he c hc
 simp only [lvE, List.mem_map] at he
 obtain ⟨x, _, rfl⟩ := he
 simp only [List.mem_cons, List.not_mem_nil, or_false] at hc
 rcases hc with rfl | rfl <;> trivial
end Go.Proofs.YtkjjacndfieeoaaGreatDoor
namespace Go.Proofs.YtkjjacndfieeoaaGreatDoor
set_option linter.unusedVariables false
set_option linter.unusedSimpArgs false
set_option linter.unusedSectionVars false
open Go.RowKit Pl
theorem z6X {t : Bs} {a : Nat} {n v : Bs} (h : z3T t = some (a, n, v)) : z8w (a : Int) n v = true := by
 rcases hA : z36 t 0 false with ⟨a', p1, b1⟩
 rcases hN : z1f t p1 b1 with ⟨n', p2, b2⟩
 rcases hV : z1f t p2 b2 with ⟨v', p3, b3⟩
 simp only [z3T, hA, hN, hV] at h
 split at h
 ·rename_i hc
  injection h with h
  simp only [Prod.mk.injEq] at h
  obtain ⟨rfl, rfl, rfl⟩ := h
  simp only [Bool.and_eq_true] at hc
  exact hc.2
 ·cases h
end Go.Proofs.YtkjjacndfieeoaaGreatDoor
namespace Go.Proofs.YtkjjacndfieeoaaGreatDoor
set_option linter.unusedVariables false
set_option linter.unusedSimpArgs false
set_option linter.unusedSectionVars false
open Pl
abbrev Fl := Bs × Bs × Int
def flAt (l : List Fl) (k : Nat) : Fl := l.getD k ([], [], 0)
theorem zf5 {l : List Fl} {k : Nat} (h : k < l.length) : flAt l k = l[k] := by simp [flAt, List.getD, List.getElem?_eq_getElem h]
def z28 (l : List Fl) (i : Nat) : Bool := inB ((flAt l i).1.length : Int) 1 8 && decide (((flAt l i).2.1.length : Int) ≤ 20000) && inB (flAt l i).2.2 0 ((flAt l i).2.1.length : Int) && (i == 0 || ltB (flAt l (i - 1)).1 (flAt l i).1)
def z0X (l : List Fl) : Bool := decide (l.length ≤ 30) && (List.range l.length).all (z28 l)
theorem z3s {l : List Fl} {k : Nat} (hk : k < l.length) (h : z28 l k = false) : z0X l = false := by
 have : (List.range l.length).all (z28 l) = false := by
  rw [List.all_eq_false]
  exact ⟨k, List.mem_range.2 hk, by simp [h]⟩
 rw [z0X, this, Bool.and_false]
theorem z6j {l : List Fl} (h : 30 < l.length) : z0X l = false := by
 have : decide (l.length ≤ 30) = false := by simp; omega
 rw [z0X, this, Bool.false_and]
theorem z2i {l : List Fl} (hl : l.length ≤ 30) (h : ∀ k, k < l.length → z28 l k = true) : z0X l = true := by
 have h1 : decide (l.length ≤ 30) = true := by simpa using hl
 have h2 : (List.range l.length).all (z28 l) = true := List.all_eq_true.2 fun k hk => h k (List.mem_range.1 hk)
 rw [z0X, h1, h2]; rfl
theorem zdf {l : List Fl} : z0X l = true ↔ l.length ≤ 30 ∧ ∀ k, k < l.length → z28 l k = true := by
 constructor
 ·intro h
  rw [z0X, Bool.and_eq_true, decide_eq_true_iff, List.all_eq_true] at h
  exact ⟨h.1, fun k hk => h.2 k (List.mem_range.2 hk)⟩
 ·rintro ⟨h1, h2⟩; exact z2i h1 h2
theorem zdg {l : List Fl} {k : Nat} (h : z28 l k = true) : (flAt l k).2.1.length ≤ 20000 := by
 simp only [z28, Bool.and_eq_true, decide_eq_true_eq] at h
 have := h.1.1.2
 omega
def z1z (l : List Fl) (n : Bs) : Option Nat := l.findIdx? fun x => x.1 == n
theorem z8z {l : List Fl} {n : Bs} {k : Nat} (h : k < l.length) (hx : ∀ j, j < k → (flAt l j).1 ≠ n) (he : (flAt l k).1 = n) : z1z l n = some k := by
 rw [z1z, List.findIdx?_eq_some_iff_getElem]
 refine ⟨h, by rw [← zf5 h, he]; simp, fun j hj => ?_⟩
 have := hx j hj
 rw [zf5 (by omega)] at this
 simpa using this
theorem zf6 {l : List Fl} {n : Bs} (hx : ∀ j, j < l.length → (flAt l j).1 ≠ n) : z1z l n = none := by
 rw [z1z, List.findIdx?_eq_none_iff]
 intro x hm
 obtain ⟨j, hj, rfl⟩ := List.getElem_of_mem hm
 have := hx j hj
 rw [zf5 hj] at this
 simpa using this
theorem zf7 {l : List Fl} {n : Bs} {k : Nat} (h : z1z l n = some k) : k < l.length := by
 rw [z1z, List.findIdx?_eq_some_iff_getElem] at h
 exact h.1
def ixI : Option Nat → Int
 | some k => (k : Int)
 | none => -1
def z1A (l : List Fl) (n : Bs) : Option Bs := (z1z l n).map fun i => (flAt l i).2.1
theorem zaO {l : List Fl} {n t : Bs} (h : z0X l = true) (hg : z1A l n = some t) : t.length ≤ 20000 := by
 unfold z1A at hg
 cases hi : z1z l n with
 | none => rw [hi] at hg; cases hg
 | some k =>
   rw [hi] at hg
   injection hg with hg
   subst hg
   exact zdg ((zdf.1 h).2 k (zf7 hi))
def z0J (t : Bs) : Bs := z0e t.length ++ z1Z (z1T t) ++ t
def unf (f : Bs) : Nat → Nat → List Bs × Nat
 | 0, p => ([], p)
 | k + 1, p => match z0z f p with
   | none => ([], p)
   | some (n, q) => if 1 ≤ n ∧ n ≤ 9000 ∧ n + 4 ≤ f.length - q ∧ (f.drop q).take 4 = z1Z (z1T ((f.drop (q + 4)).take n)) then
      (((f.drop (q + 4)).take n) :: (unf f k (q + 4 + n)).1, (unf f k (q + 4 + n)).2)
     else ([], p)
def z0K (f : Bs) : List Bs × Nat := if 20000 < f.length then ([], 0) else unf f (f.length + 1) 0
def UfAt (R : List Bs × Nat) (f : Bs) (k : Nat) (l : List Bs) (p : Nat) : Prop := R = (l ++ (unf f k p).1, (unf f k p).2)
theorem UfAt.stop {R : List Bs × Nat} {f : Bs} {k : Nat} {l : List Bs} {p : Nat} (h : UfAt R f (k + 1) l p) (hr : z0z f p = none) : R = (l, p) := by
 rw [h, unf, hr]; simp
theorem UfAt.bad {R : List Bs × Nat} {f : Bs} {k : Nat} {l : List Bs} {p n q : Nat} (h : UfAt R f (k + 1) l p) (hr : z0z f p = some (n, q))
 (hn : ¬ (1 ≤ n ∧ n ≤ 9000 ∧ n + 4 ≤ f.length - q ∧ (f.drop q).take 4 = z1Z (z1T ((f.drop (q + 4)).take n)))) : R = (l, p) := by
 rw [h, unf, hr]; simp only; rw [if_neg hn]; simp
theorem UfAt.step {R : List Bs × Nat} {f : Bs} {k : Nat} {l : List Bs} {p n q : Nat} (h : UfAt R f (k + 1) l p) (hr : z0z f p = some (n, q))
 (hn : 1 ≤ n ∧ n ≤ 9000 ∧ n + 4 ≤ f.length - q ∧ (f.drop q).take 4 = z1Z (z1T ((f.drop (q + 4)).take n))) : UfAt R f k (l ++ [(f.drop (q + 4)).take n]) (q + 4 + n) := by
 unfold UfAt at h ⊢
 rw [h, unf, hr]; simp only; rw [if_pos hn]; simp
theorem z9z (f : Bs) : ∀ k p, (∀ t ∈ (unf f k p).1, 1 ≤ t.length ∧ t.length ≤ 9000) ∧ (unf f k p).1.length ≤ k
 | 0, p => ⟨fun t h => by simp [unf] at h, by simp [unf]⟩
 | k + 1, p => by
   rw [unf]
   split
   ·exact ⟨fun t h => by simp at h, by simp⟩
   ·rename_i n q hr
    split
    ·rename_i hc
     have ih := z9z f k (q + 4 + n)
     refine ⟨fun t h => ?_, by simp; exact ih.2⟩
     simp only [List.mem_cons] at h
     rcases h with rfl | h
     ·simp; omega
     ·exact ih.1 t h
    ·exact ⟨fun t h => by simp at h, by simp⟩
theorem z8A (f : Bs) : (∀ t ∈ (z0K f).1, 1 ≤ t.length ∧ t.length ≤ 9000) ∧ (z0K f).1.length ≤ 20001 := by
 unfold z0K
 split
 ·exact ⟨fun t h => by simp at h, by simp⟩
 ·have := z9z f (f.length + 1) 0
  exact ⟨this.1, by have := this.2; omega⟩
theorem zf8 {f : Bs} {p n q : Nat} (hr : z0z f p = some (n, q)) (hn : n + 4 ≤ f.length - q) :
 z0J ((f.drop (q + 4)).take n) = (f.drop p).take (q + 4 + n - p) ↔ (f.drop q).take 4 = z1Z (z1T ((f.drop (q + 4)).take n)) := by
 obtain ⟨he, hq⟩ := z69 hr
 have hl : ((f.drop (q + 4)).take n).length = n := by simp; omega
 have e : (f.drop p).take (q + 4 + n - p) = z0e n ++ (f.drop q).take 4 ++ (f.drop (q + 4)).take n := by
  rw [he, hq, show p + (z0e n).length + 4 + n - p = (z0e n).length + (4 + n) by omega, List.take_length_add_append, List.take_add, List.drop_drop, List.append_assoc]
 rw [e, z0J, hl, List.append_cancel_right_eq, List.append_cancel_left_eq]
 exact eq_comm
def z0N (l : List Fl) (n : Bs) : List Bs := if z0X l = true then (z0K ((z1A l n).getD [])).1 else []
theorem z3E (l : List Fl) (n : Bs) : (∀ t ∈ z0N l n, 1 ≤ t.length ∧ t.length ≤ 9000) ∧ (z0N l n).length ≤ 20001 := by
 unfold z0N
 split
 ·exact z8A _
 ·exact ⟨fun t h => by simp at h, by simp⟩
def shardB (nm : Bs) (K : Int) : Nat := if 0 ≤ K ∧ K ≤ 2 then ixB nm / 2 ^ (8 - K.toNat) else 0
structure Sv where
 ep : Nat
 vs : List (List Lf)
 tk : List Nat
 al : List Ch
 re : Nat
 rt : Nat
 rk : Nat
def sv0 : Sv := ⟨0, [[]], [0], [], 0, 0, 0⟩
def zhN (s : Sv) : List Lf := (s.al.take s.rk).foldl zcc []
def z29 (s : Sv) : Sv := ⟨s.ep + 1, s.vs ++ [zhN s], s.tk ++ [s.rk], s.al, 0, 0, 0⟩
def lastT (l : List Nat) : Nat := l.getLastD 0
def idIx (l : List Ch) (id : Int) : Option Nat := l.findIdx? fun x => x.1 == id
inductive Rk where
 | no | all (u : Ch) | rdy (e y k : Nat) | com
def num1 (t : Bs) : Nat × Nat × Bool := z36 t 1 false
def num2 (t : Bs) : Nat × Nat × Bool := z36 t (num1 t).2.1 (num1 t).2.2
def num3 (t : Bs) : Nat × Nat × Bool := z36 t (num2 t).2.1 (num2 t).2.2
def rkOf (a K : Int) (s : Sv) : Bs → Rk
 | [] => .no
 | b :: r =>
   if b.toNat = 1 then match z3T r with
    | some (id, n, v) => if (shardB n K : Int) = a ∧ idIx s.al (id : Int) = none then .all ((id : Int), n, v) else .no
    | none => .no
   else if b.toNat = 2 then
    if z40 (num3 (b :: r)).2.2 (num3 (b :: r)).2.1 (r.length + 1) = true ∧ (num1 (b :: r)).1 = s.ep + 1 ∧ (num1 (b :: r)).1 ≤ 4 ∧ s.rt < (num2 (b :: r)).1 ∧ (num2 (b :: r)).1 ≤ 1000 ∧
     lastT s.tk ≤ (num3 (b :: r)).1 ∧ (num3 (b :: r)).1 ≤ s.al.length
    then .rdy (num1 (b :: r)).1 (num2 (b :: r)).1 (num3 (b :: r)).1 else .no
   else if b.toNat = 3 then
    if z40 (num1 (b :: r)).2.2 (num1 (b :: r)).2.1 (r.length + 1) = true ∧ (num1 (b :: r)).1 = s.re ∧ (num1 (b :: r)).1 ≠ 0 then .com else .no
   else if b.toNat = 4 then
    if z40 (num2 (b :: r)).2.2 (num2 (b :: r)).2.1 (r.length + 1) = true ∧ (num1 (b :: r)).1 = s.re ∧ (num2 (b :: r)).1 = s.rt ∧ (num1 (b :: r)).1 ≠ 0 then .rdy 0 0 0 else .no
   else .no
def rkDo (s : Sv) : Rk → Sv
 | .no => s
 | .all u => { s with al := s.al ++ [u] }
 | .rdy e y k => { s with re := e, rt := y, rk := k }
 | .com => z29 s
def zgR (a K : Int) (s : Sv) (t : Bs) : Sv := rkDo s (rkOf a K s t)
def svOf (a K : Int) (ts : List Bs) : Sv := ts.foldl (zgR a K) sv0
structure SvOk (n : Nat) (s : Sv) : Prop where
 ep : s.ep ≤ 4
 vl : s.vs.length = s.ep + 1
 tl : s.tk.length = s.ep + 1
 al : s.al.length ≤ n
 tb : ∀ x ∈ s.tk, x ≤ s.al.length
 ch : ∀ u ∈ s.al, z8w u.1 u.2.1 u.2.2 = true
 re : s.re = 0 ∨ s.re = s.ep + 1
 r4 : s.re ≤ 4
 rt : s.rt ≤ 1000
 rk : s.rk ≤ s.al.length
 vo : ∀ v ∈ s.vs, z0C v = true
theorem sv0_ok : SvOk 0 sv0 := ⟨by decide, rfl, rfl, Nat.le_refl _, by simp [sv0], by simp [sv0], .inl rfl, by decide, by decide, by decide, by simp [sv0, z0C]⟩
theorem zf9 (s : Sv) : z0C (zhN s) = true := ziv (by simp [z0C])
theorem zgS {a K : Int} {n : Nat} {s : Sv} {t : Bs} (h : SvOk n s) : SvOk (n + 1) (zgR a K s t) := by
 have weak : SvOk (n + 1) s := { h with al := by have := h.al; omega }
 unfold zgR
 cases t with
 | nil => exact weak
 | cons b r =>
   rw [rkOf]
   split
   ·split
    ·rename_i id nm v hr
     split
     ·rename_i hc
      refine { h with al := by simp [rkDo]; exact h.al, tb := fun x hx => ?_, ch := fun u hu => ?_, rk := ?_ }
      ·have := h.tb x hx; simp [rkDo]; omega
      ·simp only [rkDo, List.mem_append, List.mem_singleton] at hu
       rcases hu with hu | rfl
       ·exact h.ch u hu
       ·exact z6X hr
      ·have := h.rk; simp [rkDo]; omega
     ·exact weak
    ·exact weak
   ·split
    ·split
     ·rename_i hc
      obtain ⟨-, h1, h2, h3, h4, h5, h6⟩ := hc
      exact { weak with re := .inr h1, r4 := h2, rt := h4, rk := h6 }
     ·exact weak
    ·split
     ·split
      ·rename_i hc
       obtain ⟨-, h1, h2⟩ := hc
       have hre : s.re = s.ep + 1 := by rcases h.re with e | e <;> omega
       have h4 := h.r4
       refine ⟨by simp [rkDo, z29]; omega, by simp [rkDo, z29, h.vl], by simp [rkDo, z29, h.tl], weak.al, fun x hx => ?_, h.ch, .inl rfl, by simp [rkDo, z29], by simp [rkDo, z29], by simp [rkDo, z29], fun v hv => ?_⟩
       ·simp only [rkDo, z29, List.mem_append, List.mem_singleton] at hx ⊢
        rcases hx with hx | rfl
        ·exact h.tb x hx
        ·exact h.rk
       ·simp only [rkDo, z29, List.mem_append, List.mem_singleton] at hv
        rcases hv with hv | rfl
        ·exact h.vo v hv
        ·exact zf9 s
      ·exact weak
     ·split
      ·split
       ·exact { weak with re := .inl rfl, r4 := by simp [rkDo], rt := by simp [rkDo], rk := by simp [rkDo] }
       ·exact weak
      ·exact weak
theorem z9A (a K : Int) : ∀ (ts : List Bs) (s : Sv) (n : Nat), SvOk n s → SvOk (n + ts.length) (ts.foldl (zgR a K) s)
 | [], s, n, h => h
 | t :: ts, s, n, h => by
   have := z9A a K ts _ _ (zgS (a := a) (K := K) (t := t) h)
   rw [List.length_cons, show n + (ts.length + 1) = n + 1 + ts.length by omega]
   exact this
theorem ziB (a K : Int) (ts : List Bs) : SvOk ts.length (svOf a K ts) := by
 have := z9A a K ts sv0 0 sv0_ok
 rwa [Nat.zero_add] at this
end Go.Proofs.YtkjjacndfieeoaaGreatDoor
