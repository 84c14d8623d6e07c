/- The moves of the code with the way on hidden: what is still to come is an unknown condition, so neither the text's steps nor the kernel look at it. Rows that may be moved: a contract's own row told as such; marks in rows. -/
import Derived.Test.YtfjbinbpgdiafaaGreatDoorVd
namespace Go.Proofs.YtfjbinbpgdiafaaGreatDoor
set_option linter.unusedVariables false
set_option linter.unusedSimpArgs false
set_option linter.unusedSectionVars false
open Go.RowKit Pl
section
variable {P : Program} {tt : TT} {base : Nat} {Q : Pst}
theorem z0a {x y : Code} {S : St} (h : ∀ Q1 : Pst, (∀ S', W P tt base y Q S' → Q1 .normal S') → (∀ i S', Q (.exit i) S' → Q1 (.exit i) S') → (∀ S', Q .ret S' → Q1 .ret S') → W P tt base x Q1 S) : W P tt base (.seq x y) Q S :=
 wi_seq (h _ (fun _ h => h) (fun _ _ h => h) (fun _ h => h))
theorem z00 {n : Nat} {c : Code} {S : St} (h : ∀ Q1 : Pst, (∀ S', Q .normal S' → Q1 .normal S') → (∀ S', Q .normal S' → Q1 (.exit n) S') → (∀ i S', Nat.beq i n = false → Q (.exit i) S' → Q1 (.exit i) S') → (∀ S', Q .ret S' → Q1 .ret S') → W P tt base c Q1 S) : W P tt base (.block n c) Q S :=
 zdQ (h _ (fun _ h => h) (fun S' h => by show (bif Nat.beq n n then Q .normal S' else Q (.exit n) S'); rw [Nat.beq_refl]; exact h) (fun i S' e h => by show (bif Nat.beq i n then Q .normal S' else Q (.exit i) S'); rw [e]; exact h) (fun _ h => h))
end
end Go.Proofs.YtfjbinbpgdiafaaGreatDoor
namespace Go.Proofs.YtfjbinbpgdiafaaGreatDoor
set_option linter.unusedVariables false
set_option linter.unusedSimpArgs false
set_option linter.unusedSectionVars false
open Go.RowKit Pl
theorem zfu {He : List Ent} {i : Nat} {e : Ent} {r : Nat} : idxE (He.set i e) r = if r = i + 1 ∧ i < He.length then live e else idxE He r := by
 unfold idxE
 by_cases h0 : r = 0
 ·subst h0; rw [if_pos rfl, if_neg (by omega), if_pos rfl]
 ·rw [if_neg h0, if_neg h0, List.getElem?_set]
  by_cases h1 : i = r - 1
  ·rw [if_pos h1]
   by_cases h2 : i < He.length
   ·rw [if_pos h2, if_pos ⟨by omega, h2⟩]
   ·rw [if_neg h2, if_neg (fun h => h2 h.2), List.getElem?_eq_none (by omega)]
  ·rw [if_neg h1, if_neg (fun h => h1 (by omega))]
theorem zcU {P : Program} {f : FuncId} {He He' : List Ent} {ts : List T} {r : T} (i : Nat) {k : Nat} {es : List (List T)} (h : CT P f He ts r He') (hi : He'[i]? = some (.row k es)) (hk : k ≠ 0) (hcl : ∀ e ∈ es, ∀ c ∈ e, cl0 c) : CT P f He ts r (He'.set i (.deep k es [])) := by
 refine ⟨h.1, fun X hh hH hu vs ha => (h.2 X hh hH hu vs ha).mono ?_⟩
 rintro e w' ⟨v, X', rfl, rfl, h1, h2, h3, h4, h5⟩
 have hlt := (List.getElem?_eq_some_iff.1 hi).1
 let X2 : Cx := { X' with H := idxE (He'.set i (.deep k es [])) }
 have hl : live (.deep k es []) = some (.deep k es []) := rfl
 have hH1 : X'.H (i + 1) = some (.row k es) := by
  rw [h1]
  refine z11.2 ⟨by omega, by rw [Nat.add_sub_cancel]; exact hi, ?_⟩
  cases k with
  | zero => exact absurd rfl hk
  | succ k => rfl
 have hH2 : ∀ a, X2.H a = if a = i + 1 then some (.deep k es []) else X'.H a := fun a => by
  show idxE (He'.set i (.deep k es [])) a = _
  rw [zfu, h1]
  by_cases ha : a = i + 1
  ·rw [if_pos ⟨ha, hlt⟩, if_pos ha]; rfl
  ·rw [if_neg (fun h => ha h.1), if_neg ha]
 have hs : Same X' X2 := ⟨fun _ h => h, rfl, rfl, rfl, Nat.le_refl _, .refl _ _, fun a _ e' he' => by
  rw [hH2] at he'
  split at he'
  ·rename_i ha; subst ha; injection he' with he'; subst he'; exact ⟨_, hH1, rfl⟩
  ·exact ⟨e', he', rfl⟩, fun g h h0 => ⟨⟨h, h0⟩, rfl⟩, fun a _ _ g hg => ⟨hg, fun C t fr hC => ⟨C, hC, rfl⟩⟩⟩
 refine ⟨v, X2, rfl, rfl, rfl, by rw [List.length_set]; exact h2, ⟨fun a b x hx p q => h3.inj a b x (fun hn => hx ?_) p q, h3.lt, fun a e' he' => ?_, ?_, h3.pos, h3.gl, h3.inn⟩, h4.mono hs, h5.trans hs⟩
 ·rw [hH2]
  split
  ·rename_i ha; subst ha; rw [hH1] at hn; cases hn
  ·exact hn
 ·have he2 := he'
  rw [hH2] at he2
  split at he2
  ·rename_i ha; subst ha
   injection he2 with he2; subst he2
   obtain ⟨p, q⟩ := h3.node _ _ hH1
   exact ⟨p, q.1, q.2.imp (fun h => ⟨h, rfl⟩) fun ⟨g, C, t, fr, a1, a2, a3, a4⟩ => ⟨g, C, t, fr, [], a1, a2, a3, List.nodup_nil, fun b hb => (by cases hb), OE.of hcl a4, fun p hp => by cases hp⟩⟩
  ·obtain ⟨p, q⟩ := h3.node a e' he2
   exact ⟨p, q.mono hs p (by rw [he']; simp) (fun b _ => rfl) (fun b hb => ⟨hb, rfl⟩)⟩
 ·rw [hH2, if_neg (by omega)]; exact h3.zero
def zau (k : Nat) (c : T) : T := match c with
 | .val (.slice none 0 0) => .own k []
 | c => c
theorem zcV (k : Nat) (hk : 0 < k) (c : T) : zau k c = c ∨ (c = .val nilV ∧ ∃ k', 0 < k' ∧ zau k c = .own k' []) := by
 unfold zau
 split
 ·exact .inr ⟨rfl, k, hk, rfl⟩
 ·exact .inl rfl
theorem CvE.nil (k : Nat) (hk : 0 < k) : CvE [[.val nilV]] [[.own k []]] := ⟨fun e he c hc => by
 rw [List.mem_singleton] at he; subst he
 rw [List.mem_singleton] at hc; subst hc; trivial, zau k, zcV k hk, rfl⟩
section
variable (el : Nat → List T → List T) (sz : List T → Nat)
end
end Go.Proofs.YtfjbinbpgdiafaaGreatDoor
