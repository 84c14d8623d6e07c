/- Functions by content: lists that are compared; whether a shard is as its disk tells. Functions by content: whether a shard is as its disk tells, by the program and by the reference. What fits a shape is a list of files, of entries, of numbers, of changes. -/
import Derived.Test.YtbcgmjdfnjmhoaaGreatDoorSxy
namespace Go.Proofs.YtbcgmjdfnjmhoaaGreatDoor
set_option linter.unusedVariables false
set_option linter.unusedSimpArgs false
set_option linter.unusedSectionVars false
open Go.RowKit Pl
attribute [local irreducible] z0F z0I z0T AnsP LeP
def isE (l : List Int) : List (List T) := l.map fun n : Int => [.int .i64 n]
theorem is_len (l : List Int) : (isE l).length = l.length := by simp [isE]
def vAt (l : List (List Lf)) (k : Nat) : List Lf := l.getD k []
theorem zfH {l : List (List Lf)} {k : Nat} (h : k < l.length) : vAt l k = l[k] := by simp [vAt, List.getD, List.getElem?_eq_getElem h]
theorem zfI (l : List (List Lf)) (k : Nat) (h : k < l.length) : l.take (k + 1) = l.take k ++ [vAt l k] := by rw [List.take_add_one, List.getElem?_eq_getElem h, zfH h]; rfl
theorem vw_get {l : List (List Lf)} {k : Nat} (h : k < l.length) : (vwE l)[k]? = some [.sl 2 (lvE (vAt l k))] := by rw [zfH h]; simp [vwE, List.getElem?_eq_getElem h]
end Go.Proofs.YtbcgmjdfnjmhoaaGreatDoor
namespace Go.Proofs.YtbcgmjdfnjmhoaaGreatDoor
set_option linter.unusedVariables false
set_option linter.unusedSimpArgs false
set_option linter.unusedSectionVars false
open Go.RowKit Pl
attribute [local irreducible] z0F z0I z0T AnsP LeP
end Go.Proofs.YtbcgmjdfnjmhoaaGreatDoor
namespace Go.Proofs.YtbcgmjdfnjmhoaaGreatDoor
set_option linter.unusedVariables false
set_option linter.unusedSimpArgs false
set_option linter.unusedSectionVars false
open Go.RowKit Pl
theorem z9u {α : Type} (enc : α → List T) (R : α → Prop) : ∀ (z : List (List T)), (∀ e ∈ z, ∃ x, e = enc x ∧ R x) → ∃ l : List α, z = l.map enc ∧ ∀ x ∈ l, R x
 | [], _ => ⟨[], rfl, fun x h => by cases h⟩
 | e :: z, h => by
   obtain ⟨x, hx, hr⟩ := h e (by simp)
   obtain ⟨l, hl, hs⟩ := z9u enc R z fun e he => h e (List.mem_cons_of_mem _ he)
   refine ⟨x :: l, by rw [hx, hl]; rfl, fun y hy => ?_⟩
   rcases List.mem_cons.1 hy with rfl | hy
   ·exact hr
   ·exact hs y hy
theorem zfC {N : Nat} {z : List (List T)} (h : ∀ e ∈ z, Fits N z0s e) : ∃ l : List Fl, z = flE l ∧ ∀ x ∈ l, x.1.length ≤ N ∧ x.2.1.length ≤ N :=
 z9u (fun f : Fl => [.str f.1, .str f.2.1, .int .i64 f.2.2]) (fun x => x.1.length ≤ N ∧ x.2.1.length ≤ N) z fun e he => by
  obtain ⟨s0, s1, n2, rfl, q0, q1, q2, -⟩ := z1n (h e he)
  exact ⟨(s0, s1, n2), rfl, q0, q1⟩
theorem dec_lv {N : Nat} {z : List (List T)} (h : ∀ e ∈ z, Fits N z2x e) : ∃ l : List Lf, z = lvE l ∧ ∀ x ∈ l, x.1.length ≤ N ∧ x.2.length ≤ N :=
 z9u (fun f : Lf => [.str f.1, .str f.2]) (fun x => x.1.length ≤ N ∧ x.2.length ≤ N) z fun e he => by
  obtain ⟨s0, s1, rfl, q0, q1, -⟩ := z77 (h e he)
  exact ⟨(s0, s1), rfl, q0, q1⟩
theorem dec_ch {N : Nat} {z : List (List T)} (h : ∀ e ∈ z, Fits N z1S e) : ∃ l : List Ch, z = chE l ∧ ∀ x ∈ l, x.2.1.length ≤ N ∧ x.2.2.length ≤ N :=
 z9u chL (fun x => x.2.1.length ≤ N ∧ x.2.2.length ≤ N) z fun e he => by
  obtain ⟨n0, s1, s2, rfl, q0, q1, q2, -⟩ := z4N (h e he)
  exact ⟨(n0, s1, s2), rfl, q1, q2⟩
theorem dec_is {N : Nat} {z : List (List T)} (h : ∀ e ∈ z, Fits N .int e) : ∃ l : List Int, z = isE l := by
 obtain ⟨l, hl, _⟩ := z9u (fun n : Int => [T.int .i64 n]) (fun _ => True) z fun e he => by
  obtain ⟨n, rfl, _⟩ := h e he
  exact ⟨n, rfl, trivial⟩
 exact ⟨l, hl⟩
theorem dec_vw {N : Nat} {z : List (List T)} (h : ∀ e ∈ z, Fits N (.sl 2 z2x) e) : ∃ l : List (List Lf), z = vwE l ∧ ∀ v ∈ l, v.length ≤ N :=
 z9u (fun v : List Lf => [.sl 2 (lvE v)]) (fun v => v.length ≤ N) z fun e he => by
  obtain ⟨es, rfl, q, hq⟩ := h e he
  obtain ⟨l, rfl, _⟩ := dec_lv hq
  exact ⟨l, rfl, by rw [z0Y] at q; exact q⟩
theorem zfD {N : Nat} {l : List Fl} (hN : (N : Int) ≤ 100000000) (h : l.length ≤ N) (hx : ∀ x ∈ l, x.1.length ≤ N ∧ x.2.1.length ≤ N) : z6o l := by
 refine ⟨by omega, fun k => ?_⟩
 rcases Nat.lt_or_ge k l.length with hk | hk
 ·rw [zbE hk]
  have := hx _ (List.getElem_mem hk)
  omega
 ·simp [flAt, List.getD, List.getElem?_eq_none hk]
end Go.Proofs.YtbcgmjdfnjmhoaaGreatDoor
