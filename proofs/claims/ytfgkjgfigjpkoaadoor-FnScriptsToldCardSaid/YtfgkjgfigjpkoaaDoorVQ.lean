/- The moves of the code with the way on hidden: what is still to come is an unknown condition, so neither the text's steps nor the kernel look at it. Plain: what one line of a script does, case by case. -/
import Derived.Test.YtfgkjgfigjpkoaaDoorVd
import Derived.Test.YtfgkjgfigjpkoaaDoorPlE
namespace Go.Proofs.YtfgkjgfigjpkoaaDoor
set_option linter.unusedVariables false
set_option linter.unusedSimpArgs false
set_option linter.unusedSectionVars false
open Go.RowKit Pl
section
variable {P : Program} {tt : TT} {base : Nat} {Q : Pst}
theorem z08 {x y : Code} {S : St} (h : ∀ Q1 : Pst, (∀ S', W P tt base y Q S' → Q1 .normal S') → (∀ i S', Q (.exit i) S' → Q1 (.exit i) S') → (∀ S', Q .ret S' → Q1 .ret S') → W P tt base x Q1 S) : W P tt base (.seq x y) Q S :=
 wi_seq (h _ (fun _ h => h) (fun _ _ h => h) (fun _ h => h))
theorem z00 {n : Nat} {c : Code} {S : St} (h : ∀ Q1 : Pst, (∀ S', Q .normal S' → Q1 .normal S') → (∀ S', Q .normal S' → Q1 (.exit n) S') → (∀ i S', Nat.beq i n = false → Q (.exit i) S' → Q1 (.exit i) S') → (∀ S', Q .ret S' → Q1 .ret S') → W P tt base c Q1 S) : W P tt base (.block n c) Q S :=
 z9V (h _ (fun _ h => h) (fun S' h => by show (bif Nat.beq n n then Q .normal S' else Q (.exit n) S'); rw [Nat.beq_refl]; exact h) (fun i S' e h => by show (bif Nat.beq i n then Q .normal S' else Q (.exit i) S'); rw [e]; exact h) (fun _ h => h))
end
end Go.Proofs.YtfgkjgfigjpkoaaDoor
namespace Go.Proofs.YtfgkjgfigjpkoaaDoor
set_option linter.unusedVariables false
set_option linter.unusedSimpArgs false
set_option linter.unusedSectionVars false
open Go.RowKit Pl
def zSc : List T := [.int .i64 0, .int .i64 0, .val nilV, .bool false, .val nilV]
theorem pt_le {p : List Bs} (h : ∀ x ∈ p, x.length ≤ 600) (i : Nat) : (pt p i).length ≤ 600 := by
 by_cases hi : i < p.length
 ·rw [pt, List.getD, List.getElem?_eq_getElem hi]
  exact h _ (List.getElem_mem hi)
 ·rw [pt, List.getD, List.getElem?_eq_none (by omega)]
  exact Nat.zero_le _
theorem pt_ne {p : List Bs} (h : ∀ x ∈ p, x ≠ []) (h0 : 0 < p.length) : 0 < (pt p 0).length := by
 rw [pt, List.getD, List.getElem?_eq_getElem h0]
 exact List.length_pos_iff.2 (h _ (List.getElem_mem h0))
theorem z1V {l : Bs} (h : z0v l = true) : (∀ x ∈ z0o l, x.length ≤ 600) ∧ (∀ x ∈ z0o l, x ≠ []) ∧ (z0o l).length ≤ 10 := by
 rw [z0v, Bool.and_eq_true, Bool.and_eq_true, decide_eq_true_eq, decide_eq_true_eq] at h
 exact ⟨fun x hx => by have := (z3n hx).2; omega, fun x hx => (z3n hx).1, h.2.2⟩
theorem zaF {p : List Bs} (h : p.length = 0) : z2J p = true := by rw [z2J, decide_eq_true h]; rfl
theorem z8K {p : List Bs} (h : (pt p 0).getD 0 0 = 35) : z2J p = true := by rw [z2J, decide_eq_true h, Bool.or_true]
theorem z8L {p : List Bs} (h0 : ¬ p.length = 0) (h : ¬ (pt p 0).getD 0 0 = 35) : z2J p = false := by rw [z2J, decide_eq_false h, decide_eq_false h0]; rfl
theorem z4I {x : Sc} {p : List Bs} (h1 : p.length = 1) (h2 : pt p 0 = z1F) : addB x p = true ∧ addC x p = { x with ca := true } := by
 have e : z2G p = true := by rw [z2G, decide_eq_true h1, decide_eq_true h2]; rfl
 exact ⟨by rw [addB, if_pos e], by rw [addC, if_pos e]⟩
theorem z65 {x : Sc} {p : List Bs} (h1 : p.length = 4) (h2 : pt p 0 = wAsk) : addB x p = ((isB (pt p 1) && isB (pt p 3)) && decide (x.ak.length < 10)) ∧ addC x p = { x with ak := x.ak ++ [z5s p] } := by
 have e : ¬ z2G p = true := fun h => by
  rw [z2G, Bool.and_eq_true, decide_eq_true_eq] at h
  omega
 have e2 : z7r p = true := by rw [z7r, decide_eq_true h1, decide_eq_true h2]; rfl
 exact ⟨by rw [addB, if_neg e, if_pos e2], by rw [addC, if_neg e, if_pos e2]⟩
theorem z8M {x : Sc} {p : List Bs} (hc : ¬ (p.length = 1 ∧ pt p 0 = z1F)) (ha : ¬ (p.length = 4 ∧ pt p 0 = wAsk)) : addB x p = ((okR (rawE p) && evOk (evR (rawE p))) && decide (x.ev.length < 90)) ∧ addC x p = { x with ev := x.ev ++ [evR (rawE p)] } := by
 have e : ¬ z2G p = true := fun h => by
  rw [z2G, Bool.and_eq_true, decide_eq_true_eq, decide_eq_true_eq] at h
  exact hc h
 have e2 : ¬ z7r p = true := fun h => by
  rw [z7r, Bool.and_eq_true, decide_eq_true_eq, decide_eq_true_eq] at h
  exact ha h
 exact ⟨by rw [addB, if_neg e, if_neg e2], by rw [addC, if_neg e, if_neg e2]⟩
theorem z8N {L : List Bs} {i : Nat} {x : Sc} {R : Sc × Int} (h : i < L.length) (hZ : rdL (L.drop i) i x = R) : rdL (L[i] :: L.drop (i + 1)) i x = R := by
 rw [← List.drop_eq_getElem_cons h]; exact hZ
theorem zaG {l : Bs} {ls : List Bs} {i : Nat} {x : Sc} {R : Sc × Int} (hZ : rdL (l :: ls) i x = R) (h : z0v l = false) : (z1P, (i : Int) + 1) = R := by
 rw [rdL.eq_2, h, if_neg (by decide)] at hZ
 exact hZ
theorem z8O {l : Bs} {ls : List Bs} {i : Nat} {x : Sc} {R : Sc × Int} (hZ : rdL (l :: ls) i x = R) (h : z0v l = true) (h2 : z2J (z0o l) = true) : rdL ls (i + 1) x = R := by
 rw [rdL.eq_2, h, if_pos rfl, h2, if_pos rfl] at hZ
 exact hZ
theorem rl_wy {l : Bs} {ls : List Bs} {i : Nat} {x : Sc} {R : Sc × Int} (hZ : rdL (l :: ls) i x = R) (h : z0v l = true) (h2 : z2J (z0o l) = false) (h3 : x.n = 0) (h4 : wldB (z0o l) = true) : rdL ls (i + 1) { x with n := decV (pt (z0o l) 1), k := decV (pt (z0o l) 2) } = R := by
 rw [rdL.eq_2, h, if_pos rfl, h2, if_neg (by decide), if_pos h3, h4, if_pos rfl] at hZ
 exact hZ
theorem rl_wn {l : Bs} {ls : List Bs} {i : Nat} {x : Sc} {R : Sc × Int} (hZ : rdL (l :: ls) i x = R) (h : z0v l = true) (h2 : z2J (z0o l) = false) (h3 : x.n = 0) (h4 : wldB (z0o l) = false) : (z1P, (i : Int) + 1) = R := by
 rw [rdL.eq_2, h, if_pos rfl, h2, if_neg (by decide), if_pos h3, h4, if_neg (by decide)] at hZ
 exact hZ
theorem rl_ay {l : Bs} {ls : List Bs} {i : Nat} {x : Sc} {R : Sc × Int} (hZ : rdL (l :: ls) i x = R) (h : z0v l = true) (h2 : z2J (z0o l) = false) (h3 : ¬ x.n = 0) (h4 : addB x (z0o l) = true) : rdL ls (i + 1) (addC x (z0o l)) = R := by
 rw [rdL.eq_2, h, if_pos rfl, h2, if_neg (by decide), if_neg h3, h4, if_pos rfl] at hZ
 exact hZ
theorem rl_an {l : Bs} {ls : List Bs} {i : Nat} {x : Sc} {R : Sc × Int} (hZ : rdL (l :: ls) i x = R) (h : z0v l = true) (h2 : z2J (z0o l) = false) (h3 : ¬ x.n = 0) (h4 : addB x (z0o l) = false) : (z1P, (i : Int) + 1) = R := by
 rw [rdL.eq_2, h, if_pos rfl, h2, if_neg (by decide), if_neg h3, h4, if_neg (by decide)] at hZ
 exact hZ
theorem z8P {i : Nat} {x : Sc} {R : Sc × Int} (hZ : rdL [] i x = R) (h : x.n = 0) : (z1P, (1 : Int)) = R := by
 rw [rdL.eq_1, if_pos h] at hZ
 exact hZ
theorem z8Q {i : Nat} {x : Sc} {R : Sc × Int} (hZ : rdL [] i x = R) (h : ¬ x.n = 0) : (x, (0 : Int)) = R := by
 rw [rdL.eq_1, if_neg h] at hZ
 exact hZ
theorem n35 {b : UInt8} (h : ¬ b = 35) : ¬ (b.toNat : Int) = 35 := fun c => h (UInt8.toNat_inj.1 (show b.toNat = UInt8.toNat 35 by have e : UInt8.toNat 35 = 35 := rfl; omega))
theorem z5t {i : Nat} (h : i ≤ 100000) : IntKind.i64.wrap ((i : Int) + 1) = (i : Int) + 1 := by rw [wrap_i64 (by omega) (by omega)]
theorem inB_nz {v : Nat} (h : inB (v : Int) 1 3 = true) : ¬ (v : Int) = 0 := inB_n h
end Go.Proofs.YtfgkjgfigjpkoaaDoor
