/- Plain: proofs of many: the places above some places, how many hashes are wanted. -/
import Derived.Test.YtnhcfmmdaihneaaGreatDoorIxc
namespace Go.Proofs.YtnhcfmmdaihneaaGreatDoor
set_option linter.unusedVariables false
set_option linter.unusedSimpArgs false
set_option linter.unusedSectionVars false
open Go.RowKit Pl
def lvUp : List Nat → List Nat
 | [] => []
 | [p] => [p / 2]
 | p :: q :: l => if p % 2 = 0 ∧ q = p + 1 then p / 2 :: lvUp l else p / 2 :: lvUp (q :: l)
def lvNd : List Nat → Nat
 | [] => 0
 | [_] => 1
 | p :: q :: l => if p % 2 = 0 ∧ q = p + 1 then lvNd l else lvNd (q :: l) + 1
def z1u : Nat → List Nat → Nat
 | 0, _ => 0
 | n + 1, l => lvNd l + z1u n (lvUp l)
theorem z6g : ∀ {l : List Nat} {b : Nat}, (∀ x ∈ l, b ≤ x) → ∀ y ∈ lvUp l, b / 2 ≤ y
 | [], b, h, y, hy => by cases hy
 | [p], b, h, y, hy => by
   rw [lvUp, List.mem_singleton] at hy
   have := h p (by simp)
   omega
 | p :: q :: l, b, h, y, hy => by
   have hp := h p (by simp)
   rw [lvUp] at hy
   split at hy
   ·rcases List.mem_cons.1 hy with rfl | hy
    ·omega
    ·exact z6g (fun x hx => h x (by simp [hx])) y hy
   ·rcases List.mem_cons.1 hy with rfl | hy
    ·omega
    ·exact z6g (l := q :: l) (fun x hx => h x (List.mem_cons_of_mem _ hx)) y hy
theorem z6h : ∀ {l : List Nat} {b : Nat}, (∀ x ∈ l, x < b) → ∀ y ∈ lvUp l, y < b
 | [], b, h, y, hy => by cases hy
 | [p], b, h, y, hy => by
   rw [lvUp, List.mem_singleton] at hy
   have := h p (by simp)
   omega
 | p :: q :: l, b, h, y, hy => by
   have hp := h p (by simp)
   rw [lvUp] at hy
   split at hy
   ·rcases List.mem_cons.1 hy with rfl | hy
    ·omega
    ·exact z6h (fun x hx => h x (by simp [hx])) y hy
   ·rcases List.mem_cons.1 hy with rfl | hy
    ·omega
    ·exact z6h (l := q :: l) (fun x hx => h x (List.mem_cons_of_mem _ hx)) y hy
abbrev Ups (l : List Nat) : Prop := l.Pairwise (· < ·)
theorem z2f : ∀ {l : List Nat}, Ups l → Ups (lvUp l)
 | [], _ => List.Pairwise.nil
 | [p], _ => by rw [lvUp]; exact List.pairwise_singleton _ _
 | p :: q :: l, h => by
   obtain ⟨h1, h2⟩ := List.pairwise_cons.1 h
   obtain ⟨h3, h4⟩ := List.pairwise_cons.1 h2
   have hpq := h1 q (by simp)
   rw [lvUp]
   split
   ·rename_i hc
    refine List.pairwise_cons.2 ⟨fun y hy => ?_, z2f h4⟩
    have := z6g (b := p + 2) (fun x hx => by have := h3 x hx; omega) y hy
    omega
   ·rename_i hc
    refine List.pairwise_cons.2 ⟨fun y hy => ?_, z2f h2⟩
    have := z6g (b := q) (fun x hx => by
     rcases List.mem_cons.1 hx with rfl | hx
     ·omega
     ·have := h3 x hx; omega) y hy
    omega
theorem zbk : ∀ {l : List Nat}, l ≠ [] → lvUp l ≠ []
 | [], h => absurd rfl h
 | [p], _ => by rw [lvUp]; simp
 | p :: q :: l, _ => by rw [lvUp]; split <;> simp
def z1B (out : List Nat) (p : Nat) : List Nat := if out.contains (p / 2) then out else out ++ [p / 2]
theorem zbl {out : List Nat} {p : Nat} (h : p / 2 ∈ out) : z1B out p = out := by
 unfold z1B; rw [if_pos (by simpa using h)]
theorem z5w {out : List Nat} {p : Nat} (h : p / 2 ∉ out) : z1B out p = out ++ [p / 2] := by
 unfold z1B; rw [if_neg (by simpa using h)]
theorem z6i : ∀ {l : List Nat} (out : List Nat), Ups l → (∀ y ∈ out, ∀ z ∈ l, y < z / 2) → l.foldl z1B out = out ++ lvUp l
 | [], out, _, _ => by simp [lvUp]
 | [p], out, _, h => by
   have hn : p / 2 ∉ out := fun c => by have := h _ c p (by simp); omega
   rw [List.foldl_cons, List.foldl_nil, z5w hn, lvUp]
 | p :: q :: l, out, hs, h => by
   obtain ⟨h1, h2⟩ := List.pairwise_cons.1 hs
   obtain ⟨h3, h4⟩ := List.pairwise_cons.1 h2
   have hpq := h1 q (by simp)
   have hn : p / 2 ∉ out := fun c => by have := h _ c p (by simp); omega
   rw [List.foldl_cons, z5w hn, lvUp]
   split
   ·rename_i hc
    have hq : q / 2 ∈ out ++ [p / 2] := by
     rw [List.mem_append, List.mem_singleton]
     right; omega
    rw [List.foldl_cons, zbl hq, z6i _ h4, List.append_assoc]
    ·rfl
    ·intro y hy z hz
     have hz2 := h3 z hz
     rcases List.mem_append.1 hy with hy | hy
     ·exact h y hy z (by simp [hz])
     ·rw [List.mem_singleton] at hy; omega
   ·rename_i hc
    rw [z6i _ h2, List.append_assoc]
    ·rfl
    ·intro y hy z hz
     have hz2 : q ≤ z := by
      rcases List.mem_cons.1 hz with rfl | hz
      ·omega
      ·have := h3 z hz; omega
     rcases List.mem_append.1 hy with hy | hy
     ·exact h y hy z (List.mem_cons_of_mem _ hz)
     ·rw [List.mem_singleton] at hy; omega
theorem drop2 {l : List Nat} {k : Nat} (h : k + 1 < l.length) : l.drop k = l[k] :: l[k + 1] :: l.drop (k + 2) := by
 rw [List.drop_eq_getElem_cons (by omega), List.drop_eq_getElem_cons h]
theorem zbm {l : List Nat} {k : Nat} (h : k + 1 < l.length) (h0 : l[k] % 2 = 0) (h1 : l[k + 1] = l[k] + 1) : lvUp (l.drop k) = l[k] / 2 :: lvUp (l.drop (k + 2)) ∧ lvNd (l.drop k) = lvNd (l.drop (k + 2)) := by
 rw [drop2 h, lvUp, lvNd, if_pos ⟨h0, h1⟩, if_pos ⟨h0, h1⟩]
 exact ⟨rfl, rfl⟩
theorem zcW {l : List Nat} {k : Nat} (h : k < l.length) (hn : ∀ h2 : k + 1 < l.length, ¬ (l[k] % 2 = 0 ∧ l[k + 1] = l[k] + 1)) : lvUp (l.drop k) = l[k] / 2 :: lvUp (l.drop (k + 1)) ∧ lvNd (l.drop k) = lvNd (l.drop (k + 1)) + 1 := by
 by_cases h2 : k + 1 < l.length
 ·rw [drop2 h2, lvUp, lvNd, if_neg (hn h2), if_neg (hn h2)]
  rw [List.drop_eq_getElem_cons h2]
  exact ⟨rfl, rfl⟩
 ·rw [List.drop_eq_getElem_cons h, List.drop_eq_nil_of_le (by omega), lvUp, lvNd]
  exact ⟨rfl, rfl⟩
theorem z6j {l : List Nat} (h : Ups l) {k : Nat} (hk : k + 1 < l.length) : l[k] < l[k + 1] := List.pairwise_iff_getElem.1 h k (k + 1) (by omega) hk (by omega)
def x1 (p : Nat) : Nat := if p % 2 = 0 then p + 1 else p - 1
set_option maxRecDepth 100000 in
theorem x1_fin : ∀ p : Fin 256, bits .xor .i64 (p.val : Int) 1 = ((x1 p.val : Nat) : Int) := by decide
theorem x1_eq {p : Nat} (h : p < 256) : bits .xor .i64 (p : Int) 1 = ((x1 p : Nat) : Int) := x1_fin ⟨p, h⟩
def ixsN (names : List Bs) : List Nat := (ixsI names).map Int.toNat
def npE (l : List Nat) : List (List T) := l.map fun (n : Nat) => [T.int .i64 ((n : Nat) : Int)]
theorem z2g (l : List Nat) : (npE l).length = l.length := by simp [npE]
theorem z85 (l : List Nat) (x : Nat) : npE (l ++ [x]) = npE l ++ [[.int .i64 (x : Int)]] := by simp [npE]
theorem z16 {l : List Nat} {k : Nat} (h : k < l.length) : (npE l)[k]? = some [.int .i64 (l[k] : Int)] := by simp [npE, List.getElem?_eq_getElem h]
theorem zbn (names : List Bs) : inE (ixsI names) = npE (ixsN names) := by
 simp only [inE, npE, ixsN, List.map_map]
 apply List.map_congr_left
 intro x hx
 have := z6f names x hx
 show [T.int .i64 x] = [T.int .i64 ((x.toNat : Nat) : Int)]
 rw [Int.toNat_of_nonneg this.1]
theorem zbo (names : List Bs) : ∀ x ∈ ixsN names, x < 256 := fun x hx => by
 simp only [ixsN, List.mem_map] at hx
 obtain ⟨y, hy, rfl⟩ := hx
 have := z6f names y hy
 omega
theorem z4H (names : List Bs) : Ups (ixsN names) := by
 unfold ixsN Ups
 rw [List.pairwise_map]
 refine List.Pairwise.imp_of_mem ?_ (z83 names)
 intro a b ha hb hab
 have h1 := z6f names a ha
 have h2 := z6f names b hb
 omega
theorem z6k (names : List Bs) : (ixsN names).length ≤ names.length := by
 have := zcr names
 unfold ixsN
 rwa [List.length_map]
def z1g (names : List Bs) : Bool := names.all z0J && decide (1 ≤ names.length ∧ names.length ≤ 8)
def bksB (bks : List (List Lf)) (ix : List Nat) : Bool := (List.range bks.length).all fun i => leavesOk (bks.getD i []) && decide ((z0q (bks.getD i []) (ix.getD i 0 : Int)).length = (bks.getD i []).length)
def z26 (names : List Bs) (bks : List (List Lf)) (sides : List Bs) (w : Int) : Bool :=
 z1g names && (decide (bks.length = (ixsN names).length) && (inB w 1 32 && ((sides.all fun x => decide ((x.length : Int) = w)) && (bksB bks (ixsN names) && decide (sides.length = z1u 8 (ixsN names))))))
end Go.Proofs.YtnhcfmmdaihneaaGreatDoor
