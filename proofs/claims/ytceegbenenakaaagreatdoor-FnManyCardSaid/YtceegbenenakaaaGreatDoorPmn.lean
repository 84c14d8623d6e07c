/- Plain: proofs of many: the places above some places, how many hashes are wanted. -/
import Derived.Test.YtceegbenenakaaaGreatDoorIxc
namespace Go.Proofs.YtceegbenenakaaaGreatDoor
set_option linter.unusedVariables false
set_option linter.unusedSimpArgs false
set_option linter.unusedSectionVars false
open Go.RowKit Pl
def lvUp : List Nat → List Nat
 | [] => []
 | [p] => [p / 2]
 | p :: q :: l => if p % 2 = 0 ∧ q = p + 1 then p / 2 :: lvUp l else p / 2 :: lvUp (q :: l)
def lvNd : List Nat → Nat
 | [] => 0
 | [_] => 1
 | p :: q :: l => if p % 2 = 0 ∧ q = p + 1 then lvNd l else lvNd (q :: l) + 1
def z25 : Nat → List Nat → Nat
 | 0, _ => 0
 | n + 1, l => lvNd l + z25 n (lvUp l)
theorem z6g : ∀ {l : List Nat} {b : Nat}, (∀ x ∈ l, b ≤ x) → ∀ y ∈ lvUp l, b / 2 ≤ y
 | [], b, h, y, hy => by cases hy
 | [p], b, h, y, hy => by
   rw [lvUp, List.mem_singleton] at hy
   have := h p (by simp)
   omega
 | p :: q :: l, b, h, y, hy => by
   have hp := h p (by simp)
   rw [lvUp] at hy
   split at hy
   ·rcases List.mem_cons.1 hy with rfl | hy
    ·omega
    ·exact z6g (fun x hx => h x (by simp [hx])) y hy
   ·rcases List.mem_cons.1 hy with rfl | hy
    ·omega
    ·exact z6g (l := q :: l) (fun x hx => h x (List.mem_cons_of_mem _ hx)) y hy
theorem z81 : ∀ {l : List Nat} {b : Nat}, (∀ x ∈ l, x < b) → ∀ y ∈ lvUp l, y < b
 | [], b, h, y, hy => by cases hy
 | [p], b, h, y, hy => by
   rw [lvUp, List.mem_singleton] at hy
   have := h p (by simp)
   omega
 | p :: q :: l, b, h, y, hy => by
   have hp := h p (by simp)
   rw [lvUp] at hy
   split at hy
   ·rcases List.mem_cons.1 hy with rfl | hy
    ·omega
    ·exact z81 (fun x hx => h x (by simp [hx])) y hy
   ·rcases List.mem_cons.1 hy with rfl | hy
    ·omega
    ·exact z81 (l := q :: l) (fun x hx => h x (List.mem_cons_of_mem _ hx)) y hy
abbrev Ups (l : List Nat) : Prop := l.Pairwise (· < ·)
theorem z1S : ∀ {l : List Nat}, Ups l → Ups (lvUp l)
 | [], _ => List.Pairwise.nil
 | [p], _ => by rw [lvUp]; exact List.pairwise_singleton _ _
 | p :: q :: l, h => by
   obtain ⟨h1, h2⟩ := List.pairwise_cons.1 h
   obtain ⟨h3, h4⟩ := List.pairwise_cons.1 h2
   have hpq := h1 q (by simp)
   rw [lvUp]
   split
   ·rename_i hc
    refine List.pairwise_cons.2 ⟨fun y hy => ?_, z1S h4⟩
    have := z6g (b := p + 2) (fun x hx => by have := h3 x hx; omega) y hy
    omega
   ·rename_i hc
    refine List.pairwise_cons.2 ⟨fun y hy => ?_, z1S h2⟩
    have := z6g (b := q) (fun x hx => by
     rcases List.mem_cons.1 hx with rfl | hx
     ·omega
     ·have := h3 x hx; omega) y hy
    omega
theorem zbm : ∀ {l : List Nat}, l ≠ [] → lvUp l ≠ []
 | [], h => absurd rfl h
 | [p], _ => by rw [lvUp]; simp
 | p :: q :: l, _ => by rw [lvUp]; split <;> simp
theorem zcE {l : List Nat} {k : Nat} (h : k + 1 < l.length) : l.drop k = l[k] :: l[k + 1] :: l.drop (k + 2) := by
 rw [List.drop_eq_getElem_cons (by omega), List.drop_eq_getElem_cons h]
theorem z82 {l : List Nat} {k : Nat} (h : k + 1 < l.length) (h0 : l[k] % 2 = 0) (h1 : l[k + 1] = l[k] + 1) : lvUp (l.drop k) = l[k] / 2 :: lvUp (l.drop (k + 2)) ∧ lvNd (l.drop k) = lvNd (l.drop (k + 2)) := by
 rw [zcE h, lvUp, lvNd, if_pos ⟨h0, h1⟩, if_pos ⟨h0, h1⟩]
 exact ⟨rfl, rfl⟩
theorem zbn {l : List Nat} {k : Nat} (h : k < l.length) (hn : ∀ h2 : k + 1 < l.length, ¬ (l[k] % 2 = 0 ∧ l[k + 1] = l[k] + 1)) : lvUp (l.drop k) = l[k] / 2 :: lvUp (l.drop (k + 1)) ∧ lvNd (l.drop k) = lvNd (l.drop (k + 1)) + 1 := by
 by_cases h2 : k + 1 < l.length
 ·rw [zcE h2, lvUp, lvNd, if_neg (hn h2), if_neg (hn h2)]
  rw [List.drop_eq_getElem_cons h2]
  exact ⟨rfl, rfl⟩
 ·rw [List.drop_eq_getElem_cons h, List.drop_eq_nil_of_le (by omega), lvUp, lvNd]
  exact ⟨rfl, rfl⟩
theorem z2h {l : List Nat} (h : Ups l) {k : Nat} (hk : k + 1 < l.length) : l[k] < l[k + 1] := List.pairwise_iff_getElem.1 h k (k + 1) (by omega) hk (by omega)
def x1 (p : Nat) : Nat := if p % 2 = 0 then p + 1 else p - 1
set_option maxRecDepth 100000 in
theorem x1_fin : ∀ p : Fin 256, bits .xor .i64 (p.val : Int) 1 = ((x1 p.val : Nat) : Int) := by decide
theorem ze2 {p : Nat} (h : p < 256) : bits .xor .i64 (p : Int) 1 = ((x1 p : Nat) : Int) := x1_fin ⟨p, h⟩
def ixsN (names : List Bs) : List Nat := (ixsI names).map Int.toNat
def npE (l : List Nat) : List (List T) := l.map fun (n : Nat) => [T.int .i64 ((n : Nat) : Int)]
theorem z1C (l : List Nat) : (npE l).length = l.length := by simp [npE]
theorem z4K (l : List Nat) (x : Nat) : npE (l ++ [x]) = npE l ++ [[.int .i64 (x : Int)]] := by simp [npE]
theorem z0O {l : List Nat} {k : Nat} (h : k < l.length) : (npE l)[k]? = some [.int .i64 (l[k] : Int)] := by simp [npE, List.getElem?_eq_getElem h]
theorem z9i (names : List Bs) : inE (ixsI names) = npE (ixsN names) := by
 simp only [inE, npE, ixsN, List.map_map]
 apply List.map_congr_left
 intro x hx
 have := z6f names x hx
 show [T.int .i64 x] = [T.int .i64 ((x.toNat : Nat) : Int)]
 rw [Int.toNat_of_nonneg this.1]
theorem z83 (names : List Bs) : ∀ x ∈ ixsN names, x < 256 := fun x hx => by
 simp only [ixsN, List.mem_map] at hx
 obtain ⟨y, hy, rfl⟩ := hx
 have := z6f names y hy
 omega
theorem z2W (names : List Bs) : Ups (ixsN names) := by
 unfold ixsN Ups
 rw [List.pairwise_map]
 refine List.Pairwise.imp_of_mem ?_ (z80 names)
 intro a b ha hb hab
 have h1 := z6f names a ha
 have h2 := z6f names b hb
 omega
theorem z2D (names : List Bs) : (ixsN names).length ≤ names.length := by
 have := zcD names
 unfold ixsN
 rwa [List.length_map]
def z1v (names : List Bs) : Bool := names.all z0H && decide (1 ≤ names.length ∧ names.length ≤ 8)
def bksB (bks : List (List Lf)) (ix : List Nat) : Bool := (List.range bks.length).all fun i => leavesOk (bks.getD i []) && decide ((z0h (bks.getD i []) (ix.getD i 0 : Int)).length = (bks.getD i []).length)
def z3W (names : List Bs) (bks : List (List Lf)) (sides : List Bs) (w : Int) : Bool :=
 z1v names && (decide (bks.length = (ixsN names).length) && (inB w 1 32 && ((sides.all fun x => decide ((x.length : Int) = w)) && (bksB bks (ixsN names) && decide (sides.length = z25 8 (ixsN names))))))
end Go.Proofs.YtceegbenenakaaaGreatDoor
