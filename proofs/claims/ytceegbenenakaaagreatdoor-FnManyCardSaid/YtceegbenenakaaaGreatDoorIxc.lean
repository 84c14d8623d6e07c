/- Functions by content: the indexes of names, both sides. -/
import Derived.Test.YtceegbenenakaaaGreatDoorIxo
import Derived.Test.YtceegbenenakaaaGreatDoorVe
import Derived.Test.YtceegbenenakaaaGreatDoorXt
import Derived.Test.YtceegbenenakaaaGreatDoorVd
namespace Go.Proofs.YtceegbenenakaaaGreatDoor
set_option linter.unusedVariables false
set_option linter.unusedSimpArgs false
set_option linter.unusedSectionVars false
open Go.RowKit Pl
def ixsI (names : List Bs) : List Int := zcr (names.map fun s => (ixB s : Int))
theorem zbj (l : List Int) : (inE l).length = l.length := by simp [inE]
theorem zbk (names : List Bs) : ixL (fun k => names.getD k []) names.length = names.map fun s => (ixB s : Int) := by
 apply List.ext_getElem
 ·simp [ixL]
 ·intro i h1 h2
  have hi : i < names.length := by simpa [ixL] using h1
  simp [ixL, List.getD, List.getElem?_eq_getElem hi]
theorem zcD (names : List Bs) : (ixsI names).length ≤ names.length := by
 have := zct (names.map fun s => (ixB s : Int))
 rwa [List.length_map] at this
theorem zbl : ∀ (hs : List Int), ∀ x ∈ z1G hs, x ∈ hs := by
 have key : ∀ (hs a : List Int), ∀ x ∈ hs.foldl addH a, x ∈ a ∨ x ∈ hs := by
  intro hs
  induction hs with
  | nil => intro a x hx; exact .inl hx
  | cons y hs ih =>
    intro a x hx
    rcases ih _ x hx with h | h
    ·rcases z6a.1 h with h | rfl
     ·exact .inl h
     ·exact .inr (by simp)
    ·exact .inr (by simp [h])
 intro hs x hx
 rcases key hs [] x hx with h | h
 ·cases h
 ·exact h
theorem z6f (names : List Bs) : ∀ x ∈ ixsI names, 0 ≤ x ∧ x < 256 := fun x hx => by
 have h2 := (z2V (names.map fun s => (ixB s : Int)) [] [] List.Pairwise.nil (List.Perm.refl _)).2
 have h3 : x ∈ z1G (names.map fun s => (ixB s : Int)) := h2.mem_iff.1 hx
 have h4 := zbl _ x h3
 simp only [List.mem_map] at h4
 obtain ⟨s, _, rfl⟩ := h4
 have := zd9 s
 omega
theorem z80 (names : List Bs) : (ixsI names).Pairwise (· < ·) := (z2V (names.map fun s => (ixB s : Int)) [] [] List.Pairwise.nil (List.Perm.refl _)).1
theorem ze1 {ow : Own} {w : World} {names : List Bs} {A : Option Addr}
 (h : strE names = [] ∨ ∃ g o C t fr, A = some ⟨g, o, none⟩ ∧ ow g = none ∧ w.heap[g]? = some (.cells C t fr) ∧ RE ow w 1 (strE names) (C.toList.drop o)) : NmRd w A names.length (fun k => names.getD k []) := by
 intro k hk
 have hz : (strE names)[k]? = some [.str (names.getD k [])] := by simp [strE, List.getD, List.getElem?_eq_getElem hk]
 rcases h with h | ⟨g, o, C, t, fr, rfl, -, hC, hE⟩
 ·rw [h] at hz; simp at hz
 obtain ⟨us, hl, hr, hv⟩ := z7k _ _ k _ hE hz
 simp only [RL] at hr
 obtain ⟨v0, r0, rfl, h0, rfl⟩ := hr
 simp only [RV] at h0
 subst h0
 have h1 := hv 0 (by decide)
 refine ⟨g, o, rfl, z0I hC, ?_⟩
 rw [List.getElem?_drop] at h1
 simp only [World.cell?, hC]
 simp only [Option.isSome_none, Bool.false_eq_true, if_false]
 rw [← Array.getElem?_toList]
 simpa using h1
theorem z2g (names : List Bs) (hn : names.length ≤ 1048576) (hl : ∀ s ∈ names, (s.length : Int) ≤ 100000000) : CT Tryz.prog 35 [] [.sl 1 (strE names)] (.sl 1 (inE (ixsI names))) [] := by
 refine zdZ ⟨_, Tryz.func35, rfl, rfl⟩ fun X hh vs ha => ?_
 obtain ⟨v, us, rfl, hv, rfl⟩ := ha
 have hv : RV X.ow X.w (.sl 1 (strE names)) v := hv
 simp only [RV] at hv
 obtain ⟨A, c, rfl, hc, hE⟩ := hv
 have hgl : Gl (cx0 X.w) := Gl.mono (X := X) (X' := cx0 X.w) (fun g hg hn => ⟨rfl, rfl⟩) hh.gl
 rw [z0g]
 refine (z7Y A names.length c (fun k => names.getD k []) X.w hgl hn (ze1 hE) fun k hk => ?_).mono ?_
 ·have : names.getD k [] = names[k] := by simp [List.getD, List.getElem?_eq_getElem hk]
  rw [this]
  exact hl _ (List.getElem_mem hk)
 ·rw [zbk]
  rintro e w' ⟨v, rfl, hown, hb⟩
  have hl : (z1G (names.map fun s => (ixB s : Int))).length = (ixsI names).length := by unfold ixsI; rw [← z77]; simp
  rw [z77, hl] at hown
  refine ⟨v, rfl, hb, ?_⟩
  change w'.ownsRow _ _ 1 v (ixsI names).length ((ixsI names).map (Value.int .i64)) at hown
  generalize ixsI names = L at hown
  show RV X.ow w' (.sl 1 (inE L)) v
  simp only [RV]
  rcases hown.2 with ⟨rfl, h0⟩ | ⟨g, cap, cur, rfl, hg, hC, h1, h2, h3, h4⟩
  ·obtain rfl : L = [] := List.eq_nil_of_length_eq_zero h0
   exact ⟨none, 0, rfl, Nat.le_refl _, .inl rfl⟩
  ·refine ⟨some ⟨g, 0, none⟩, cap, by rw [zbj], by rw [zbj]; exact h1, .inr ⟨g, 0, cur, _, _, rfl, ?_, hC, ?_⟩⟩
   ·cases ho : X.ow g with
    | none => rfl
    | some r => have := (hh.lt g r ho).1; omega
   ·rw [List.drop_zero]
    exact z9e L _ (by simpa using h4)
section
attribute [local irreducible] z0s z0x z0C AnsP LeP W CvE
end
end Go.Proofs.YtceegbenenakaaaGreatDoor
